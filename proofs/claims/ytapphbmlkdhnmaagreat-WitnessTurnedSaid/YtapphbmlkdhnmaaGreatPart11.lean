/- Part 11 of the proof. -/
import Derived.Test.YtapphbmlkdhnmaaGreatPart2
import Derived.Test.YtapphbmlkdhnmaaGreatPart10
import Derived.Test.YtapphbmlkdhnmaaGreatPart4
import Derived.Test.YtapphbmlkdhnmaaGreatPart3
/- Numbers of a slice, one by one, gathered and sorted. -/
namespace Go.Proofs.YtapphbmlkdhnmaaGreat
open Go.GV
attribute [local irreducible] A4 W Wq Wt

/-- A slice in a variable of its own. -/
structure ValK (b:Nat) (a:Option Addr) (n c:Nat) (xs:List Int) (w:World):Prop where
 h:w.heap[b]? = some (Bl 25 [.slice a n c])
 R:Rd w a 1 U1 xs
theorem ValK.ext {b:Nat} {a:Option Addr} {n c:Nat} {xs:List Int} {w w':World} {S:List Nat} (K:ValK b a n c xs w) (hx:Ext S w w') (h1:b∉S) (h2:xs≠[]→(adr a).block∉S):ValK b a n c xs w':=⟨hx.to K.h h1,K.R.ext' hx h2⟩
def Tn (bk:Nat):Value := .func (.func 185) #[] #[ptr bk]
set_option maxRecDepth 20000 in
theorem W8 {b:Nat} {a:Option Addr} {n c:Nat} {xs:List Int} (hn:xs.length=n) (hn2:n≤1000000):LK Tryz.prog 185 #[ptr b] [] (fun _ w=>ValK b a n c xs w) (xs.map fun x=>[.int .u64 x]):=by
 subst hn
 intro l w J E hJ0 hJs hEs hK hY
 obtain ⟨M0,hJ0⟩:=hJ0
 obtain ⟨w0,rfl⟩:∃ w0,w0=w:=⟨_,rfl⟩
 refine A2 (fn:=Tryz.f185) Tryz.func185 rfl [.func (.yield l) #[] #[],.pointer (some ⟨b,0,none⟩)] rfl (by kernel_rfl) ?_
 have K0:=(hK _ _ _ hJ0).2
 have H:=Ctx.start w0 []
 refine Af (AX rfl EH rfl ((by rw [Ap K0.h]; rfl)) ?_)
 refine Bc rfl Bb rfl (Ad rfl rfl (Ab (Aa (Aw (Bm 65424 (α:=Nat) (fun i=>[(7,.int .i64 (i:Int))]) (fun i w'=>i≤xs.length∧∃ M,J i M w') (fun i=>xs.length - i) 0 rfl ?_ ?_ ?_)))))
 ·exact ⟨rfl,trivial⟩
 ·exact ⟨Nat.zero_le _,M0,hJ0⟩
 ·clear H
  rintro i j w ⟨hi,M,hJ⟩
  have R:=(hK _ _ _ hJ).2.R
  obtain ⟨w1,rfl⟩:∃ w1,w1=w:=⟨_,rfl⟩
  have H:=Ctx.start w1 []
  refine Af (AO rfl rfl rfl (Ab (Aa (Au (Ax _ rfl ?_ ?_)))))
  ·intro h1
   replace h1:=AE h1
   obtain ⟨x,hx⟩:=AH (l:=xs) (i:=i) (by omega)
   refine Ay (Aa (Au (Aw (Af (Ba R rfl Bb AZ rfl rfl (by omega) (by omega) (by rfl) ?_)))))
   refine AX rfl BJ rfl ((R.fld hx rfl (j:=0) rfl)) ?_
   refine Ae rfl rfl (Ab (Aa (Af (BX rfl (.func _ _ _) rfl ?_))))
   refine Ad rfl rfl ?_
   have hY1:=hY i [.int .u64 x] M _ (by rw [List.getElem?_map,hx]; rfl) (hJs _ _ _ _ hJ H.ext)
   refine F3 (vs:=[.int .u64 x]) rfl rfl hY1 rfl ?_
   rintro u w hu
   clear H
   obtain ⟨bb,rfl,hu1,hu0⟩:∃ bb,u = .bool bb∧(bb=true→∃ M,J (i+1) M w)∧(bb=false→E w):=hu.elim (fun h=>⟨true,h.1,fun _=>let ⟨M',h1,_⟩:=h.2; ⟨M',h1⟩,fun h=>by cases h⟩) (fun h=>⟨false,h.1,(fun h=>by cases h),fun _=>h.2⟩)
   refine Bs rfl rfl (Ab (Aa (Ax _ rfl ?_ ?_)))
   ·intro h2
    replace h2:=Bp h2
    refine A5 (A3 (Ak (Ak (A3 (EM rfl rfl ?_)))))
    exact .inr (hu0 (by simpa using h2))
   ·intro h2
    replace h2:=Bq h2
    refine Ay (A1 (Aa (Aq (Ao rfl rfl rfl (by omega) (by omega) ?_))))
    refine Ad rfl rfl (Ab (Aa ?_))
    exact ⟨i+1,rfl,⟨rfl,trivial⟩,⟨by omega,hu1 (by simpa using h2)⟩,by omega⟩
  ·intro h1
   replace h1:=AF h1
   obtain rfl:i=xs.length:=by omega
   refine Bh (Aj (Aj (AG (CJ rfl rfl ?_))))
   exact .inl ⟨M,by rw [List.length_map]; exact hJ⟩
theorem Uq (a:Option Addr) (n c:Nat) (w:World):Ret Tryz.prog 153 #[.slice a n c] w fun v w'=>∃ bk,v=Tn bk∧w'.heap[bk]? = some (Bl 25 [.slice a n c])∧w.heap.size≤bk∧Ext [] w w':=by
 obtain ⟨w0,rfl⟩:∃ w0,w0=w:=⟨_,rfl⟩
 have H:=Ctx.start w0 []
 refine A2 (fn:=Tryz.f153) Tryz.func153 rfl [.slice a n c] rfl (by kernel_rfl) ?_
 refine Af (Bu rfl _ (.slice _ _ _) rfl rfl H ?_)
 rintro b1 w - H
 refine BU rfl .nilFunc rfl ?_
 refine Ab (Aa (Af (Cy rfl [.pointer _] rfl (BU rfl (.func _ _ _) rfl ?_))))
 refine Ab (Aa (A5 (A8 (v:=(.func _ _ _)) rfl rfl rfl ?_)))
 exact ⟨_,rfl,H.get at0,(H.own _ (List.mem_cons_self ..)).elim (fun h=>by cases h) id,H.ext⟩
/-- What the rounds leave. -/
def apvJ (w0:World) (bk:Nat) (a0:Option Addr) (n0 c0:Nat) (xs:List Int) (bb k:Nat) (i:Nat) (M:Mt) (w:World):Prop :=
 ∃ a c full,(M=fun y=>y∈((bb,Bl 25 [.slice a i c])::ent a 24 full).map (·.1))∧Ctx w0 [] w ((bb,Bl 25 [.slice a i c])::ent a 24 full) ∧
  OS a i c 1 full ((xs.take i).map Eu)∧(∀ x∈full,∃ z,x=Eu z)∧ValK bk a0 n0 c0 xs w∧∀ y∈((bb,Bl 25 [.slice a i c])::ent a 24 full).map (·.1),y≠k∧y≠k+1
set_option maxRecDepth 20000 in
set_option maxHeartbeats 2000000 in
theorem Sb {bk:Nat} {a0:Option Addr} {n0 c0:Nat} {xs:List Int} (hn:xs.length=n0) (hm:n0≤1000000) (w:World) (K:ValK bk a0 n0 c0 xs w) :
  Ret Tryz.prog 173 #[.slice none 0 0,Tn bk] w fun v w'=>FreshU w w' v xs:=by
 obtain ⟨w0,rfl⟩:∃ w0,w0=w:=⟨_,rfl⟩
 have H:=Ctx.start w0 []
 have lk:=Br K.h
 have lR:=K.R.lt' (fun _ _=>rfl) (by decide)
 refine FT (fn:=Tryz.f173) Tryz.func173 rfl [.slice none 0 0,.func (.func 185) #[] #[.pointer (some ⟨bk,0,none⟩)]] rfl (by kernel_rfl) ?_
 refine Af (Bu rfl _ (.slice _ _ _) rfl rfl H ?_)
 rintro b2 w - H
 refine AB rfl rfl (Ab (Aa (Au (Af (BX rfl (.func _ _ _) rfl ?_)))))
 refine Ab (Aa (Aw ?_))
 obtain ⟨ws,rfl⟩:∃ z,z=w:=⟨_,rfl⟩
 have hb2:=(H.own _ (List.mem_cons_self ..)).elim (fun h=>by cases h) id
 have l2:=H.lt at0
 have hsz:=H.size
 dsimp only at hb2
 have K2:ValK bk a0 n0 c0 xs ws:=K.ext H.ext (by simp) (by simp)
 refine J7 (gf:=185) rfl Aad (W8 (b:=bk) (a:=a0) (c:=c0) hn hm) (by kernel_rfl) (by kernel_rfl) (fun v hv=>by obtain ⟨p,-,rfl⟩:=List.mem_map.1 hv; rfl)
  (apvJ w0 bk a0 n0 c0 xs b2 ws.heap.size) (fun _=>False) (by simp)
  (fun w2 hx2 _=>⟨_,none,0,[],rfl,H.call hx2,OS.nil,by simp,K2.ext hx2 (by simp) (by simp),by simp [ent]; omega⟩)
  (fun i M w' w'' hJ hx=>?_) (fun _ _ h _=>h) (fun i M w' hJ=>?_) ?_ ?_ (fun _ h _=>h.elim)
 ·obtain ⟨a,c,full,hMM,HJ,O,Z,KJ,hne⟩:=hJ
  refine ⟨a,c,full,hMM,HJ.step hx (fun y hy hy2=>?_) (fun x hx => .inr ?_),O,Z,KJ.ext hx (fun h=>?_) (fun hne' h=>?_),hne⟩
  ·have:=hne _ (List.mem_map_of_mem (f:=(·.1)) hy)
   simp only [List.mem_cons,List.not_mem_nil,or_false] at hy2
   omega
  ·simp only [List.mem_cons,List.not_mem_nil,or_false] at hx
   omega
  ·simp only [List.mem_cons,List.not_mem_nil,or_false] at h
   omega
  ·have:=lR hne'
   simp only [List.mem_cons,List.not_mem_nil,or_false] at h
   omega
 ·obtain ⟨a,c,full,hMM,HJ,O,Z,KJ,hne⟩:=hJ
  refine ⟨fun x hx=>?_,KJ⟩
  rw [hMM] at hx
  obtain ⟨y,hy,rfl⟩:=List.mem_map.1 hx
  exact ⟨Br (HJ.blk y hy),hne _ hx⟩
 ·rintro i v M w hxv ⟨a,c,full,rfl,HJ,O,Z,KJ,hne⟩ hsz2
  rw [List.getElem?_map] at hxv
  obtain ⟨x,hxi,rfl⟩:=Option.map_eq_some_iff.1 hxv
  have hil:=CA hxi
  obtain ⟨w1,rfl⟩:∃ z,z=w:=⟨_,rfl⟩
  refine Aq (Ae rfl rfl (Ab ?_))
  refine ⟨Ext.refl _ _,fun wB hxB=>?_⟩
  have HB:=HJ.step hxB (fun y hy h=>(hne _ (List.mem_map_of_mem (f:=(·.1)) hy)).2 (List.mem_singleton.1 h)) (fun z hz => .inr (by rw [List.mem_singleton.1 hz]; omega))
  have KB:ValK bk a0 n0 c0 xs wB:=KJ.ext hxB (by rw [List.mem_singleton]; omega) (fun hne'=>by have:=lR hne'; rw [List.mem_singleton]; omega)
  have hown:∀ y∈((b2,Bl 25 [.slice a i c])::ent a 24 full).map (·.1),w0.heap.size≤y:=fun y hy=>by
   obtain ⟨z,hz,rfl⟩:=List.mem_map.1 hy
   exact (HJ.own z hz).elim (fun h=>by cases h) id
  have hsB:=hxB.size
  obtain ⟨w2,rfl⟩:∃ z,z=wB:=⟨_,rfl⟩
  rw [← List.append_nil ((b2,Bl 25 [.slice a i c])::ent a 24 full)] at HB
  have H:=Ctx.lend (L1:=(b2,Bl 25 [.slice a i c])::ent a 24 full) (L2:=[]) HB
  obtain ⟨SS,hSS⟩:∃ SS,SS=((b2,Bl 25 [.slice a i c])::ent a 24 full).map (·.1):=⟨_,rfl⟩
  rw [← hSS] at H
  refine Aw (Aq (A9 rfl EH rfl H at0 rfl (Ad rfl rfl (Dd _ (.int _ _) rfl Bb AZ Ja rfl (by decide) (by decide) rfl rfl rfl H ?_))))
  rintro b10 w - H
  refine P8 (L:=[_]) rfl Bb Bb AZ PE Ja rfl (by decide) rfl rfl H O rfl (by simp [B0]) (by omega) ?_
  rintro a' c' full' w H O Z2
  refine BF (.slice _ _ _) rfl SD rfl rfl rfl H at0 (by (simp; done)) ?_
  rintro w H
  refine Ab (A1 ?_)
  rw [hSS] at H
  have HE:=H.ext
  refine ⟨_,⟨a',c',full',rfl,by rw [← List.append_nil (_::ent a' _ full')]; exact Ctx.back HB H,by rw [Dm hxi,List.map_append]; exact O,fun x hx=>?_,KB.ext HE (fun h=>by have:=hown _ h; omega) (fun hne' h=>by have:=hown _ h; have:=lR hne'; omega),fun y hy=>?_⟩,fun y hy=>?_,_,HE,fun y hy => .inl hy⟩
  ·rcases Z2 x hx with h | h | h
   ·exact Z x h
   ·exact ⟨_,List.mem_singleton.1 h⟩
   ·exact ⟨_,List.mem_singleton.1 h⟩
  ·obtain ⟨z,hz,rfl⟩:=List.mem_map.1 hy
   rcases H.own z hz with h | h
   ·exact hne _ h
   ·omega
  ·obtain ⟨z,hz,rfl⟩:=List.mem_map.1 hy
   exact (H.own z hz).imp id fun h=>by omega
 ·rintro M w ⟨a,c,full,rfl,HJ,O,Z,KJ,hne⟩ hD
  rw [List.length_map] at HJ O hne
  rw [List.take_length] at O
  have H:=HJ
  refine A1 (Aa (Af (A9 rfl EH rfl H at0 rfl (AB rfl rfl (Ab (Aa (A5 (J5 (v:=(.slice _ _ _)) rfl rfl (FU hD rfl fun wF hxF=>?_)))))))))
  have HF:=H.step hxF (fun y hy h=>(hne _ (List.mem_map_of_mem (f:=(·.1)) hy)).1 (List.mem_singleton.1 h)) (fun z hz => .inr (by rw [List.mem_singleton.1 hz]; omega))
  refine ⟨⟨a,xs.length,c,full,rfl,O,Z,fun x hx=>⟨HF.blk x (List.mem_cons_of_mem _ hx),(HF.own x (List.mem_cons_of_mem _ hx)).elim (fun h=>by cases h) id⟩⟩,HF.ext⟩
theorem Qr {bk:Nat} {a0:Option Addr} {n0 c0:Nat} {xs:List Int} (hn:xs.length=n0) (hm:n0≤1000000) (w:World) (K:ValK bk a0 n0 c0 xs w) :
  Ret Tryz.prog 121 #[Tn bk] w fun v w'=>FreshU w w' v xs:=by
 obtain ⟨w0,rfl⟩:∃ w0,w0=w:=⟨_,rfl⟩
 refine A2 (fn:=Tryz.f121) Tryz.func121 rfl [.func (.func 185) #[] #[.pointer (some ⟨bk,0,none⟩)]] rfl (by kernel_rfl) ?_
 refine Af (AB rfl rfl (Ab (Aa (Af (BX rfl (.func _ _ _) rfl ?_)))))
 refine Am rfl Aaa (Sb hn hm _ K) rfl ?_
 rintro v w F
 obtain ⟨a,n,c,full,rfl,O,Z,hb⟩:=F.ex
 refine AB rfl rfl (Ab (Aa (A5 (A8 (v:=(.slice _ _ _)) rfl rfl rfl ?_))))
 exact F
theorem Sc {bk:Nat} {a0:Option Addr} {n0 c0:Nat} {xs:List Int} (hn:xs.length=n0) (hm:n0≤1000000) (w:World) (K:ValK bk a0 n0 c0 xs w) :
  Ret Tryz.prog 61 #[Tn bk] w fun v w'=>∃ l:List Int,l.Perm xs∧l.Pairwise (·≤·)∧FreshU w w' v l:=by
 obtain ⟨w0,rfl⟩:∃ w0,w0=w:=⟨_,rfl⟩
 refine A2 (fn:=Tryz.f61) Tryz.func61 rfl [.func (.func 185) #[] #[.pointer (some ⟨bk,0,none⟩)]] rfl (by kernel_rfl) ?_
 refine Af (AB rfl rfl (Ab (Aa (Af (BX rfl (.func _ _ _) rfl ?_)))))
 refine Am rfl Z7 (Qr hn hm _ K) rfl ?_
 rintro v w F
 obtain ⟨a,n,c,full,rfl,O,Z,hb⟩:=F.ex
 have hx5:=F.ext
 have hvn:=O.llen
 rw [List.length_map] at hvn
 refine AB rfl rfl (Ab (Aa (Af (An rfl rfl (Am rfl Z8 (sortF _ O Z (fun x hx=>(hb x hx).1) (by omega)) rfl ?_)))))
 rintro v w ⟨rfl,full',l',hP,hS,O',Z',hb',hx7⟩
 refine Ab (Aa (Af (An rfl rfl (AB rfl rfl (Ab (Aa (A5 (A8 (v:=(.slice _ _ _)) rfl rfl rfl ?_))))))))
 refine ⟨l',hP,hS,⟨_,_,_,_,rfl,O',Z',fun x hx=>⟨hb' x hx,?_⟩⟩,hx5.then hx7 fun x hx=>?_⟩
 ·cases a with
  | none=>simp [ent] at hx
  | some p =>
   simp only [ent,List.mem_singleton] at hx
   subst hx
   exact (hb (p.block,Bl 24 full) (by simp [ent])).2
 ·obtain ⟨y,hy,rfl⟩:=List.mem_map.1 hx
  exact .inr (hb y hy).2
end Go.Proofs.YtapphbmlkdhnmaaGreat

/- Whether no number comes twice. -/
namespace Go.Proofs.YtapphbmlkdhnmaaGreat
open Go.GV
attribute [local irreducible] A4 W Wq Wt

theorem Ur {l:List Int} (hs:l.Pairwise (·≤·)):l.Nodup↔∀ (j:Nat) (x y:Int),l[j]? = some x→l[j+1]? = some y→x≠y:=by
 rw [List.Nodup,List.pairwise_iff_getElem]
 rw [List.pairwise_iff_getElem] at hs
 constructor
 ·intro h j x y hx hy
  obtain ⟨h1,rfl⟩:=List.getElem?_eq_some_iff.1 hx
  obtain ⟨h2,rfl⟩:=List.getElem?_eq_some_iff.1 hy
  exact h j (j+1) h1 h2 (by omega)
 ·intro h i j hi hj hij
  obtain ⟨k,rfl⟩:∃ k,j=k+1:=⟨j - 1,by omega⟩
  have h1:=h k _ _ (List.getElem?_eq_getElem (by omega)) (List.getElem?_eq_getElem hj)
  have h2:=hs k (k+1) (by omega) hj (by omega)
  rcases Nat.lt_or_ge i k with h3 | h3
  ·have:=hs i k hi (by omega) h3
   omega
  ·obtain rfl:i=k:=by omega
   exact h1
structure CmZ where
 k:Nat
 k2:Nat
 g:Nat→Int
set_option maxRecDepth 20000 in
set_option maxHeartbeats 2000000 in
theorem Qs {b n c:Nat} {f:Nat→Int} (w:World) (hb:w.heap[b]? = some (Bl 24 (C0 f c))) (hn:n≤c) (hm:n≤1000000) :
  Ret Tryz.prog 154 #[.slice (some ⟨b,0,none⟩) n c] w fun v w'=>∃ m,v = .slice (some ⟨b,0,none⟩) m c∧(m=n↔∀ j,j+1<n→f j≠f (j+1))∧Ext [b] w w':=by
 obtain ⟨w0,rfl⟩:∃ w0,w0=w:=⟨_,rfl⟩
 have H:=Ctx.start1 hb
 refine A2 (fn:=Tryz.f154) Tryz.func154 rfl [.slice (some ⟨b,0,none⟩) n c] rfl (by kernel_rfl) ?_
 refine Af (AB rfl rfl (Ab (Aa (Au (Af (An rfl rfl (Bc rfl Bb rfl (AO rfl rfl rfl (Ab (Aa (Ax _ rfl ?_ ?_)))))))))))
 ·intro h1
  replace h1:=AE h1
  refine Af (An rfl rfl (AB rfl rfl (Ab (Aa (A5 (Ak (A8 (v:=(.slice _ _ _)) rfl rfl rfl ?_)))))))
  exact ⟨n,rfl,⟨fun _ j hj=>by omega,fun _=>rfl⟩,H.ext⟩
 ·intro h1
  replace h1:=AF h1
  refine Ay (Aa (Au (Af (Ae rfl rfl (Ab (Aa (Aw (Bm 1152921504606846012 (α:=Nat) (fun i=>[(3,.int .i64 (i:Int))]) (fun i w'=>(1≤i∧i≤n)∧(∀ j,j+1<i→f j≠f (j+1))∧Ctx w0 [b] w' [(b,Bl 24 (C0 f c))]) (fun i=>n - i) 1 rfl ?_ ?_ ?_))))))))
  ·exact ⟨rfl,trivial⟩
  ·exact ⟨⟨Nat.le_refl _,by omega⟩,fun j hj=>by omega,H⟩
  ·clear H
   rintro i jj w ⟨⟨hi1,hi⟩,hd,H⟩
   refine Au (Af (Ad rfl rfl (An rfl rfl (Bc rfl Bb rfl (AO rfl rfl rfl (Ab (Aa (Ax _ rfl ?_ ?_))))))))
   ·intro h2
    replace h2:=AE h2
    refine Ay (Aa (Au (Aw (EF (fun x=>x=_) B5 (by kernel_rfl) rfl ?_))))
    refine BR rfl rfl (AN rfl rfl (AL rfl Bb AZ rfl rfl (by omega) (by omega) ?_))
    refine Na i _ rfl BJ rfl (by rintro _ rfl; exact H.drew) at0 (by simp) (by omega) rfl ?_
    refine BR rfl rfl (AN rfl rfl (CW rfl rfl rfl (by omega) (by omega) ?_))
    refine AL rfl Bb AZ rfl rfl (by omega) (by omega) ?_
    refine Na (i - 1) _ rfl BJ rfl (by rintro _ rfl; exact H.drew) at0 (by omega) (by omega) rfl ?_
    refine Ss rfl rfl rfl (BZ ?_)
    rintro _ rfl
    replace H:=H.drew
    refine Ax _ rfl ?_ ?_
    ·intro h3
     replace h3:=AE h3
     have hc1:¬ c=(i:Int).toNat:=by omega
     have hcut:Jj (some ⟨b,0,none⟩) c (i:Int).toNat 1=some ⟨b,i,none⟩:=by
      unfold Jj
      rw [if_neg hc1,Int.toNat_natCast,Nat.mul_one]
      show some (Addr.add ⟨b,0,none⟩ i)=_
      rw [Cu,Nat.zero_add]
     refine Af (An rfl rfl (Ad rfl rfl (EU rfl Bb AZ rfl rfl (by omega) (by omega) ?_)))
     rw [hcut,Int.toNat_natCast]
     refine AB rfl rfl (Ab (Aa (Au (Af (Ae rfl rfl (Ab (Aa (Aw (Bm 18014397972611112 (α:=CmZ) (fun z=>[(3,.int .i64 (z.k:Int)),(5,.int .i64 (z.k2:Int))]) (fun z w'=>(1≤z.k2∧i+z.k2≤n)∧(i≤z.k∧z.k+1≤i+z.k2)∧(∀ q,i+z.k2≤q+1→z.g q=f q)∧Ctx w0 [b] w' [(b,Bl 24 (C0 z.g c))]) (fun z=>n - z.k2) ⟨i,1,f⟩ rfl ?_ ?_ ?_)))))))))
     ·exact ⟨rfl,rfl,trivial⟩
     ·exact ⟨⟨Nat.le_refl _,by dsimp only; omega⟩,⟨Nat.le_refl _,Nat.le_refl _⟩,fun _ _=>rfl,H⟩
     ·clear H
      rintro ⟨k,k2,g⟩ jj2 w ⟨⟨hk1,hk2⟩,⟨hk3,hk4⟩,hg,H⟩; dsimp only at hk1 hk2 hk3 hk4 hg H; dsimp only
      refine Au (Af (Ad rfl rfl (An rfl rfl (Bc rfl Bb rfl (AO rfl rfl rfl (Ab (Aa (Ax _ rfl ?_ ?_))))))))
      ·intro h4
       replace h4:=AE h4
       refine Ay (Aa (Au (Aw (EF (fun x=>x=_) B5 (by kernel_rfl) rfl ?_))))
       refine BR rfl rfl (AN rfl rfl (AL rfl Bb AZ rfl rfl (by omega) (by omega) ?_))
       refine Na (i+k2) _ rfl BJ rfl (by rintro _ rfl; exact H.drew) at0 (by omega) (by omega) rfl ?_
       refine BR rfl rfl (AN rfl rfl (CW rfl rfl rfl (by omega) (by omega) ?_))
       refine AL rfl Bb AZ rfl rfl (by omega) (by omega) ?_
       refine Na (i+k2 - 1) _ rfl BJ rfl (by rintro _ rfl; exact H.drew) at0 (by omega) (by omega) rfl ?_
       refine UH rfl rfl rfl (BZ ?_)
       rintro _ rfl
       replace H:=H.drew
       refine Ax _ rfl ?_ ?_
       ·intro h5
        replace h5:=Eg h5
        refine Af (An rfl rfl (Ad rfl rfl (An rfl rfl (Ad rfl rfl (AV rfl Bb AZ rfl rfl (by omega) (by omega) ?_)))))
        refine QH (i+k2) _ rfl BJ rfl H at0 (by omega) (by omega) rfl ?_
        refine AV rfl Bb AZ rfl rfl (by omega) (by omega) ?_
        refine BK k (fun q => .int .u64 (upd g k (g (i+k2)) q)) (.int _ _) rfl AZ rfl rfl rfl H at0 (by omega) (by omega) (by rw [Dc]) (fun q _ hq=>by rw [DT hq]) ?_
        rintro w H
        refine Ab (Aa (Aq (Ad rfl rfl (Ao rfl rfl rfl (by omega) (by omega) ?_))))
        refine Ae rfl rfl (Ab (A1 (Aa (Aq (Ad rfl rfl (Ao rfl rfl rfl (by omega) (by omega) ?_))))))
        refine Ae rfl rfl (Ab (Aa ?_))
        exact ⟨⟨k+1,k2+1,upd g k (g (i+k2))⟩,rfl,⟨rfl,rfl,trivial⟩,⟨⟨by dsimp only; omega,by dsimp only; omega⟩,⟨by dsimp only; omega,by dsimp only; omega⟩,fun q hq=>by dsimp only at hq ⊢; rw [DT (by omega)]; exact hg q (by omega),H⟩,by dsimp only; omega⟩
       ·intro h5
        replace h5:=Eh h5
        refine Ay (A1 (Aa (Aq (Ad rfl rfl (Ao rfl rfl rfl (by omega) (by omega) ?_)))))
        refine Ae rfl rfl (Ab (Aa ?_))
        exact ⟨⟨k,k2+1,g⟩,rfl,⟨rfl,rfl,trivial⟩,⟨⟨by dsimp only; omega,by dsimp only; omega⟩,⟨by dsimp only; omega,by dsimp only; omega⟩,fun q hq=>by dsimp only at hq ⊢; exact hg q (by omega),H⟩,by dsimp only; omega⟩
      ·intro h4
       replace h4:=AF h4
       have hc2:¬ c=(k:Int).toNat:=by omega
       have hcut2:Jj (some ⟨b,0,none⟩) c (k:Int).toNat 1=some ⟨b,k,none⟩:=by
        unfold Jj
        rw [if_neg hc2,Int.toNat_natCast,Nat.mul_one]
        show some (Addr.add ⟨b,0,none⟩ k)=_
        rw [Cu,Nat.zero_add]
       refine Bh (Aj (Aj (AG (Aa (Af (An rfl rfl (Ad rfl rfl (EU rfl Bb AZ rfl rfl (by omega) (by omega) ?_))))))))
       rw [hcut2,Int.toNat_natCast]
       refine Kb rfl Bb Ja rfl (by simp [B0]) rfl H at0 (by simp; omega) ?_
       rintro w H
       refine Ab (Aa (Af (An rfl rfl (Ad rfl rfl (F1 rfl Bb AZ rfl rfl (by omega) (by omega) ?_)))))
       refine AB rfl rfl (Ab (Aa (A5 (A3 (Ak (Ak (A3 (Ak (A8 (v:=(.slice _ _ _)) rfl rfl rfl ?_)))))))))
       refine ⟨k,by rw [Int.toNat_natCast],⟨fun h=>by omega,fun h=>absurd ?_ (h (i - 1) (by omega))⟩,H.ext⟩
       rw [show i - 1+1=i by omega]
       exact h3.symm
    ·intro h3
     replace h3:=AF h3
     refine Ay (A1 (Aa (Aq (Ad rfl rfl (Ao rfl rfl rfl (by omega) (by omega) ?_)))))
     refine Ae rfl rfl (Ab (Aa ?_))
     refine ⟨i+1,rfl,⟨rfl,trivial⟩,⟨⟨by omega,by omega⟩,fun j hj=>?_,H⟩,by omega⟩
     rcases Nat.lt_or_ge (j+1) i with h7 | h7
     ·exact hd j h7
     ·obtain rfl:i=j+1:=by omega
      exact fun h=>h3 (by rw [show j+1 - 1=j by omega]; exact h.symm)
   ·intro h2
    replace h2:=AF h2
    obtain rfl:i=n:=by omega
    refine Bh (Aj (Aj (AG (Aa (Af (An rfl rfl (AB rfl rfl (Ab (Aa (A5 (A8 (v:=(.slice _ _ _)) rfl rfl rfl ?_)))))))))))
    exact ⟨i,rfl,⟨fun _=>hd,fun _=>rfl⟩,H.ext⟩
theorem Sd {a:Option Addr} {n c:Nat} {full:List Value} {l:List Int} (w:World) (O:OS a n c 1 full (l.map Eu)) (Z:∀ x∈full,∃ z,x=Eu z) (hb:∀ x∈ent a 24 full,w.heap[x.1]? = some x.2) (hs:l.Pairwise (·≤·)) (hm:n≤1000000) :
  Ret Tryz.prog 154 #[.slice a n c] w fun v w'=>∃ m,v = .slice a m c∧(m=n↔l.Nodup)∧Ext ((ent a 24 full).map (·.1)) w w':=by
 cases a with
 | none =>
  obtain rfl:n=0:=by have:=O.none' rfl; have:=O.le; omega
  have hl:l=[]:=by have:=O.llen; rw [List.length_map] at this; exact List.eq_nil_of_length_eq_zero (by omega)
  subst hl
  refine A2 (fn:=Tryz.f154) Tryz.func154 rfl [.slice none 0 c] rfl (by kernel_rfl) ?_
  refine Af (AB rfl rfl (Ab (Aa (Au (Af (An rfl rfl (Bc rfl Bb rfl (AO rfl rfl rfl (Ab (Aa (CL rfl ?_)))))))))))
  refine Af (An rfl rfl (AB rfl rfl (Ab (Aa (A5 (Ak (A8 (v:=(.slice _ _ _)) rfl rfl rfl ?_)))))))
  exact ⟨0,rfl,⟨fun _=>List.Pairwise.nil,fun _=>rfl⟩,Ext.refl _ _⟩
 | some p =>
  have hp:=O.zero p rfl
  obtain ⟨q,o,sp⟩:=p
  simp only [Addr.mk.injEq,true_and] at hp
  obtain ⟨rfl,rfl⟩:=hp
  obtain ⟨zs,rfl⟩:=OG full Z
  have hlen:=O.len
  rw [List.length_map,Nat.mul_one] at hlen
  have hpre:=O.pre
  rw [Nat.mul_one,← List.map_take] at hpre
  have hpre:=Km hpre
  have hzs:tab (fun i=>zs.getD i 0) c=zs:=by rw [← hlen]; exact VL zs
  have hb0:w.heap[q]? = some (Bl 24 (C0 (fun i=>zs.getD i 0) c)):=by
   rw [JJ,hzs]
   exact hb (q,Bl 24 (zs.map Eu)) (List.mem_singleton.2 rfl)
  refine Ret.mono (Qs (c:=c) w hb0 O.le hm) ?_
  rintro v w' ⟨m,rfl,hmn,hx⟩
  have hS0:((ent (some ⟨q,0,none⟩) 24 (zs.map Eu)).map (·.1))=[q]:=by simp [ent]
  have hle:=O.le
  have hget:∀ j,j<n→l[j]? = some (zs.getD j 0):=fun j hj=>by
   obtain ⟨z,hz⟩:=AH (l:=zs) (i:=j) (by omega)
   rw [← hpre,List.getElem?_take,if_pos hj,hz,Bi hz]
  have hll:l.length=n:=by rw [← hpre,List.length_take]; omega
  refine ⟨m,rfl,hmn.trans ?_,by rw [hS0]; exact hx⟩
  rw [Ur hs]
  constructor
  ·intro h j x y hx hy
   have h1:=CA hy
   rw [hget j (by omega)] at hx
   rw [hget (j+1) (by omega)] at hy
   cases hx; cases hy
   exact h j (by omega)
  ·intro h j hj
   exact h j _ _ (hget j (by omega)) (hget (j+1) hj)
theorem Yy (a:Option Addr) (n c:Nat) (xs:List Int) (w:World) (R:Rd w a 1 U1 xs) (hn:xs.length=n) (hm:n≤1000000) :
  Ret Tryz.prog 93 #[.slice a n c] w fun v w'=>v = .bool (decide xs.Nodup)∧Ext [] w w':=by
 subst hn
 obtain ⟨w0,rfl⟩:∃ w0,w0=w:=⟨_,rfl⟩
 have H:=Ctx.start w0 []
 refine A2 (fn:=Tryz.f93) Tryz.func93 rfl [.slice a xs.length c] rfl (by kernel_rfl) ?_
 refine Af (Ai rfl rfl (Ab (Aa (Af (An rfl rfl (Am rfl ZL (Uq a _ c _) rfl ?_))))))
 rintro v w ⟨bk,rfl,hbk,-,hx5⟩
 replace H:=H.call hx5
 refine Am rfl ca_61 (Sc rfl hm _ ⟨hbk,R.ext0 H.ext⟩) rfl ?_
 rintro v w ⟨l,hP,hS,F⟩
 obtain ⟨a6,n6,c6,f6,rfl,O6,Z6,hb6⟩:=F.ex
 have hx06:=H.ext.trans F.ext
 have hl6:=O6.llen
 rw [List.length_map,hP.length_eq] at hl6
 have hs6:=H.size
 refine AB rfl rfl (Ab (Aa (Af (An rfl rfl (Am rfl ZM (Sd _ O6 Z6 (fun x hx=>(hb6 x hx).1) hS (by omega)) rfl ?_)))))
 rintro v w ⟨m,rfl,hm8,hx8⟩
 refine Bc rfl Bb rfl (An rfl rfl (Bc rfl Bb rfl (BE rfl rfl rfl (Ai rfl rfl (Ab (Aa (A5 (A8 (v:=(.bool _)) rfl rfl rfl ?_))))))))
 refine ⟨congrArg Value.bool ?_,hx06.then hx8 fun x hx=>?_⟩
 ·rw [Bool.eq_iff_iff,decide_eq_true_eq,decide_eq_true_eq,← hP.nodup_iff,← hm8]
  omega
 ·obtain ⟨y,hy,rfl⟩:=List.mem_map.1 hx
  exact .inr (by have:=(hb6 y hy).2; omega)
end Go.Proofs.YtapphbmlkdhnmaaGreat

/- Whether a round is right: the walk of the program's. -/
namespace Go.Proofs.YtapphbmlkdhnmaaGreat
open Go.GV
attribute [local irreducible] A4 W Wq Wt

section
variable {P:Program} {r:Option Nat} {ops rest:List Oper} {Q:Exit→Env→World→Prop} {e:Env} {w:World} {C:World→Prop} {K:Env→Prop}
 {dst:Option Tmp} {ty:TypeId} {pos:String} {af:Array Edge} {g:Option (Nat × Bool)} {t t2:TypeId} {x y:Operand}
theorem YY {ks:List Bool} {xs ys:List Value} (b:Bool) (hg:AK ⟨dst,.binOp .neq t x y t2,ty,pos,af,g⟩ ops e=true) (h:Kd P t ks=true) (hx:ev e x = .agg xs.toArray) (hy:ev e y = .agg ys.toArray) (hL:Nj ks xs ys) (hb:b=true↔xs=ys)
  (hk:Wt P ops C K rest (put e dst (.bool (!b)))):Wt P ops C K (⟨dst,.binOp .neq t x y t2,ty,pos,af,g⟩::rest) e:=EV hg (fun w _=>S4 h hx hy hL hb w) hk
/-- A difference that may go beyond. -/
theorem Se {a b:Int} (hg:AK ⟨dst,.binOp .sub t x y t2,ty,pos,af,g⟩ ops e=true) (hx:ev e x = .int .i64 a) (hy:ev e y = .int .i64 b)
  (h:∀ z:Int,(-9223372036854775808≤a - b→a - b≤9223372036854775807→z=a - b)→A4 P r ops Q rest (put e dst (.int .i64 z)) w):A4 P r ops Q (⟨dst,.binOp .sub t x y t2,ty,pos,af,g⟩::rest) e w :=
 Bt hg rfl (BD hx hy (by simp [binOp,Op.intArith])) (h (IntKind.i64.wrap (a - b)) fun h1 h2=>CY (k := .i64) (n:=a - b) h1 h2)
end
theorem FM (r:Rnd) (q:RSl) (w:World) (hN : -9223372036854775808<r.N∧r.N≤9223372036854775807):Ret Tryz.prog 87 #[.agg (AJ r q).toArray] w fun v w'=>v = .int .i64 (r.N - 1)∧Ext [] w w':=by
 obtain ⟨w0,rfl⟩:∃ w0,w0=w:=⟨_,rfl⟩
 have H:=Ctx.start w0 []
 refine A2 (fn:=Tryz.f87) Tryz.func87 rfl [.agg (AJ r q).toArray] rfl (by kernel_rfl) ?_
 refine Af (Bu rfl (AJ r q) (.agg _) rfl rfl H ?_)
 rintro b1 w - H
 refine Ae rfl rfl (Ab (Aa (Af (Ah rfl CG rfl (Ah rfl CZ rfl (A9 rfl BC rfl H at0 rfl (Bd rfl rfl rfl (by omega) (by omega) ?_)))))))
 refine Ae rfl rfl (Ab (Aa (A5 (A8 (v:=(.int _ _)) rfl rfl rfl ?_))))
 exact ⟨rfl,H.ext⟩
theorem YZ (r:Rnd) (q:RSl) (k room:Int) (w:World) (hN : -9223372036854775808<r.N∧r.N≤9223372036854775807):Ret Tryz.prog 82 #[.agg (AJ r q).toArray,.int .i64 k,.int .i64 room] w fun v w'=>v = .agg (Bv ⟨r.N - 1,k,room,0⟩).toArray∧Ext [] w w':=by
 obtain ⟨w0,rfl⟩:∃ w0,w0=w:=⟨_,rfl⟩
 have H:=Ctx.start w0 []
 refine A2 (fn:=Tryz.f82) Tryz.func82 rfl [.agg (AJ r q).toArray,.int .i64 k,.int .i64 room] rfl (by kernel_rfl) ?_
 refine Af (Bu rfl (AJ r q) (.agg _) rfl rfl H ?_)
 rintro b3 w - H
 refine Bn rfl Dq H ?_
 rintro b6 w - H
 refine Ab (Aa (Af (Bf rfl CB Cw rfl H at1 rfl (Am rfl HR (FM r q _ hN) rfl ?_))))
 rintro v w ⟨rfl,hx8⟩
 replace H:=H.call hx8
 refine Ad rfl rfl (Ad rfl rfl (C7 (Bv ⟨r.N - 1,k,room,0⟩) rfl K9 Dq (by kernel_rfl) ?_))
 refine BG rfl B7 rfl rfl rfl (by exact CN _) H at0 rfl ?_
 rintro w H
 refine Ab (Aa (A5 (NX rfl rfl rfl Ec B7 H at0 rfl ?_)))
 exact ⟨rfl,H.ext⟩
theorem W9 (r:Rnd) (q:RSl) (k:Int) (w:World) (hN : -9223372036854775808<r.N∧r.N≤9223372036854775807):Ret Tryz.prog 83 #[.agg (AJ r q).toArray,.int .i64 k] w fun v w'=>v = .agg (Bv ⟨k,r.N - 1,4503599627370496,0⟩).toArray∧Ext [] w w':=by
 obtain ⟨w0,rfl⟩:∃ w0,w0=w:=⟨_,rfl⟩
 have H:=Ctx.start w0 []
 refine A2 (fn:=Tryz.f83) Tryz.func83 rfl [.agg (AJ r q).toArray,.int .i64 k] rfl (by kernel_rfl) ?_
 refine Af (Bu rfl (AJ r q) (.agg _) rfl rfl H ?_)
 rintro b2 w - H
 refine Bn rfl Dq H ?_
 rintro b4 w - H
 refine Ab (Aa (Af (Ad rfl rfl (Bf rfl CB Cw rfl H at1 rfl (Am rfl HR (FM r q _ hN) rfl ?_)))))
 rintro v w ⟨rfl,hx7⟩
 replace H:=H.call hx7
 refine C7 (Bv ⟨k,r.N - 1,4503599627370496,0⟩) rfl K9 Dq (by kernel_rfl) ?_
 refine BG rfl B7 rfl rfl rfl (by exact CN _) H at0 rfl ?_
 rintro w H
 refine Ab (Aa (A5 (NX rfl rfl rfl Ec B7 H at0 rfl ?_)))
 exact ⟨rfl,H.ext⟩
/-- May an edge be a due's? -/
def Dw (h:Int) (e:Ed):Bool:=((((decide (e.f<h) && decide (e.t<h)) && !decide (e.f=e.t)) && decide (1≤e.cap)) && decide (-1000≤e.cost)) && decide (e.cost ≤ -1)
set_option maxRecDepth 20000 in
theorem Yz (r:Rnd) (q:RSl) (e:Ed) (w:World) (hN : -9223372036854775808<r.N∧r.N≤9223372036854775807):Ret Tryz.prog 96 #[.agg (AJ r q).toArray,.agg (Bv e).toArray] w fun v w'=>v = .bool (Dw (r.N - 1) e)∧Ext [] w w':=by
 obtain ⟨w0,rfl⟩:∃ w0,w0=w:=⟨_,rfl⟩
 have H:=Ctx.start w0 []
 refine A2 (fn:=Tryz.f96) Tryz.func96 rfl [.agg (AJ r q).toArray,.agg (Bv e).toArray] rfl (by kernel_rfl) ?_
 refine Af (Bu rfl (AJ r q) (.agg _) rfl rfl H ?_)
 rintro b2 w - H
 refine Bu rfl (Bv e) (.agg _) rfl rfl H ?_
 rintro b3 w - H
 refine Ai rfl rfl (Ab (Aa (Af (Bf rfl CB Cw rfl H at1 rfl (Am rfl HR (FM r q _ hN) rfl ?_)))))
 rintro v w ⟨rfl,hx7⟩
 replace H:=H.call hx7
 refine Ae rfl rfl (Ab (Aa (Af (BP (α:=Unit) 1099511627536 (fun _=>[(4,.bool (Dw (r.N - 1) e))]) (fun _ w'=>Ctx w0 [] w' [(b3,Bl 92 (Bv e)),(b2,Bl 33 (AJ r q))]) rfl ?_ ?_))))
 ·refine Ah rfl CT rfl (A9 rfl BC rfl H at0 rfl (Ad rfl rfl (AO rfl rfl rfl (Al rfl rfl (AD 12 rfl ?_ ?_)))))
  ·intro h1
   replace h1:=AE h1
   refine Ah rfl Di rfl (A9 rfl BC rfl H at0 rfl (Ad rfl rfl (AO rfl rfl rfl (Av rfl rfl (.bool _) rfl (Al rfl rfl (AD 18 rfl ?_ ?_))))))
   ·intro h2
    replace h2:=AE h2
    refine Ah rfl CT rfl (A9 rfl BC rfl H at0 rfl (Ah rfl Di rfl (A9 rfl BC rfl H at0 rfl (D6 rfl rfl rfl (Av rfl rfl (.bool _) rfl (Al rfl rfl (AD 25 rfl ?_ ?_)))))))
    ·intro h3
     replace h3:=Eg h3
     refine Ah rfl CH rfl (A9 rfl B1 rfl H at0 rfl (CC rfl rfl rfl (Av rfl rfl (.bool _) rfl (Al rfl rfl (AD 30 rfl ?_ ?_)))))
     ·intro h4
      replace h4:=AE h4
      refine Ah rfl Da rfl (A9 rfl B1 rfl H at0 rfl (CC rfl rfl rfl (Av rfl rfl (.bool _) rfl (Al rfl rfl (AD 35 rfl ?_ ?_)))))
      ·intro h5
       replace h5:=AE h5
       refine Ah rfl Da rfl (A9 rfl B1 rfl H at0 rfl (Jh rfl rfl rfl (Av rfl rfl (.bool _) rfl (Ai rfl rfl (Ab ?_)))))
       exact ⟨rfl,(),rfl,⟨congrArg Value.bool (by unfold Dw; rw [Bool.eq_iff_iff]; simp_all; done),trivial⟩,H⟩
      ·intro h6
       replace h6:=AF h6
       refine Ag rfl (Ag rfl (Ag rfl (A7 rfl rfl (.bool _) rfl (Ai rfl rfl (Ab ?_)))))
       exact ⟨rfl,(),rfl,⟨congrArg Value.bool (by unfold Dw; rw [Bool.eq_iff_iff]; simp_all; omega),trivial⟩,H⟩
     ·intro h7
      replace h7:=AF h7
      refine Ag rfl (Ag rfl (Ag rfl (A7 rfl rfl (.bool _) rfl (Al rfl rfl (Ag rfl (Ag rfl (Ag rfl (A7 rfl rfl (.bool _) rfl (Ai rfl rfl ?_)))))))))
      refine Ab ?_
      exact ⟨rfl,(),rfl,⟨congrArg Value.bool (by unfold Dw; rw [Bool.eq_iff_iff]; simp_all; omega),trivial⟩,H⟩
    ·intro h8
     replace h8:=Eh h8
     refine Ag rfl (Ag rfl (Ag rfl (A7 rfl rfl (.bool _) rfl (Al rfl rfl (Ag rfl (Ag rfl (Ag rfl (A7 rfl rfl (.bool _) rfl (Al rfl rfl ?_)))))))))
     refine Ag rfl (Ag rfl (Ag rfl (A7 rfl rfl (.bool _) rfl (Ai rfl rfl (Ab ?_)))))
     exact ⟨rfl,(),rfl,⟨congrArg Value.bool (by unfold Dw; rw [Bool.eq_iff_iff]; simp_all; done),trivial⟩,H⟩
   ·intro h9
    replace h9:=AF h9
    refine Ag rfl (Ag rfl (Ag rfl (Ag rfl (Ag rfl (A7 rfl rfl (.bool _) rfl (Al rfl rfl (Ag rfl (Ag rfl (Ag rfl ?_)))))))))
    refine A7 rfl rfl (.bool _) rfl (Al rfl rfl (Ag rfl (Ag rfl (Ag rfl (A7 rfl rfl (.bool _) rfl (Al rfl rfl (Ag rfl (Ag rfl (Ag rfl ?_)))))))))
    refine A7 rfl rfl (.bool _) rfl (Ai rfl rfl (Ab ?_))
    exact ⟨rfl,(),rfl,⟨congrArg Value.bool (by unfold Dw; rw [Bool.eq_iff_iff]; simp_all; omega),trivial⟩,H⟩
  ·intro h10
   replace h10:=AF h10
   refine Ag rfl (Ag rfl (Ag rfl (Ag rfl (A7 rfl rfl (.bool _) rfl (Al rfl rfl (Ag rfl (Ag rfl (Ag rfl (Ag rfl ?_)))))))))
   refine Ag rfl (A7 rfl rfl (.bool _) rfl (Al rfl rfl (Ag rfl (Ag rfl (Ag rfl (A7 rfl rfl (.bool _) rfl (Al rfl rfl (Ag rfl (Ag rfl ?_)))))))))
   refine Ag rfl (A7 rfl rfl (.bool _) rfl (Al rfl rfl (Ag rfl (Ag rfl (Ag rfl (A7 rfl rfl (.bool _) rfl (Ai rfl rfl (Ab ?_))))))))
   exact ⟨rfl,(),rfl,⟨congrArg Value.bool (by unfold Dw; rw [Bool.eq_iff_iff]; simp_all; omega),trivial⟩,H⟩
 rintro - j4 w H
 refine A5 (A8 (v:=(.bool _)) rfl rfl rfl ?_)
 exact ⟨rfl,H.ext⟩
abbrev Za (b:Nat):Value := .func (.func 95) #[] #[ptr b]
theorem Us (r:Rnd) (q:RSl) (e:Ed) (b:Nat) (w:World) (hb:w.heap[b]? = some (Bl 33 (AJ r q))) (hN : -9223372036854775808<r.N∧r.N≤9223372036854775807):Ret Tryz.prog 95 #[.agg (Bv e).toArray,ptr b] w fun v w'=>v = .bool (!Dw (r.N - 1) e)∧Ext [] w w':=by
 obtain ⟨w0,rfl⟩:∃ w0,w0=w:=⟨_,rfl⟩
 have H:=Ctx.start w0 []
 refine A2 (fn:=Tryz.f95) Tryz.func95 rfl [.agg (Bv e).toArray,.pointer (some ⟨b,0,none⟩)] rfl (by kernel_rfl) ?_
 refine Af (Bu rfl (Bv e) (.agg _) rfl rfl H ?_)
 rintro b2 w - H
 refine Ai rfl rfl (Ab (Aa (Af (Ce _ rfl CB Cw rfl rfl ((C1 (b:=b) (t:=33) (l:=AJ r q) (H.ext.to hb (by simp)) 0 (AJ r q) rfl)) ?_))))
 refine Bf rfl Ec B7 rfl H at0 rfl (Am rfl ca_96 (Yz r q e _ hN) rfl ?_)
 rintro v w ⟨rfl,hx6⟩
 replace H:=H.call hx6
 refine Bs rfl rfl (Ai rfl rfl (Ab (Aa (A5 (A8 (v:=(.bool _)) rfl rfl rfl ?_)))))
 exact ⟨rfl,H.ext⟩
set_option maxRecDepth 20000 in
theorem Y0 (r:Rnd) (q:RSl) (b:Nat) (a:Option Addr) (n c:Nat) (es:List Ed) (w:World) (hb:w.heap[b]? = some (Bl 33 (AJ r q))) (hN : -9223372036854775808<r.N∧r.N≤9223372036854775807) (R:Rd w a 4 Bv es) (hn:es.length=n) (hn2:n≤1000000) :
  Ret Tryz.prog 155 #[.slice a n c,Za b] w fun v w'=>∃ i:Int,v = .int .i64 i∧(0≤i↔es.all (Dw (r.N - 1))=false)∧Ext [] w w':=by
 subst hn
 obtain ⟨w0,rfl⟩:∃ w0,w0=w:=⟨_,rfl⟩
 have H:=Ctx.start w0 []
 refine A2 (fn:=Tryz.f155) Tryz.func155 rfl [.slice a es.length c,.func (.func 95) #[] #[.pointer (some ⟨b,0,none⟩)]] rfl (by kernel_rfl) ?_
 refine Af (Ae rfl rfl (Ab (Aa (Au (Af (An rfl rfl (Bc rfl BT rfl (Ad rfl rfl (Ab (Aa (Aw ?_)))))))))))
 refine Bm 524080 (α:=Nat) (fun i=>[(8,.int .i64 (i:Int))]) (fun i w'=>i≤es.length∧Ctx w0 [] w' []∧∀ (j:Nat) (e:Ed),j<i→es[j]? = some e→Dw (r.N - 1) e=true) (fun i=>es.length - i) 0 rfl ?_ ?_ ?_
 ·exact ⟨rfl,trivial⟩
 ·exact ⟨Nat.zero_le _,H,fun j e h=>absurd h (Nat.not_lt_zero _)⟩
 ·clear H
  rintro i j w ⟨hi,H,hbf⟩
  refine Af (AO rfl rfl rfl (Ab (Aa (Au (Ax _ rfl ?_ ?_)))))
  ·intro h1
   replace h1:=AE h1
   obtain ⟨e,he⟩:=AH (l:=es) (i:=i) (by omega)
   have R1:=R.ext0 H.ext
   refine Ay (Aa (Au (Aw (Af (Ad rfl rfl (Ae rfl rfl (Ab (Aa (Af (BX rfl (.func _ _ _) rfl ?_))))))))))
   refine An rfl rfl (Ad rfl rfl (Ba R1 rfl BT B7 rfl rfl (by omega) (by omega) (by rfl) ?_))
   refine Ce _ rfl Ec B7 rfl rfl ((R1.row he rfl)) ?_
   refine Co rfl rfl ca_95 (Us r q e b _ (H.ext.to hb (by simp)) hN) rfl ?_
   rintro v w ⟨rfl,hx16⟩
   replace H:=H.call hx16
   refine Ab (Aa (Ax _ rfl ?_ ?_))
   ·intro h2
    refine Af (Ad rfl rfl (Ae rfl rfl (Ab (Aa (A5 (A3 (Ak (Ak (A3 (Ak (A8 (v:=(.int _ _)) rfl rfl rfl ?_)))))))))))
    refine ⟨i,rfl,⟨fun _=>?_,fun _=>by omega⟩,H.ext⟩
    rw [← Bool.not_eq_true,List.all_eq_true]
    intro h
    have h9:=h e (List.mem_of_getElem? he)
    simp_all
   ·intro h2
    refine Ay (A1 (Aa (Aq (Ao rfl rfl rfl (by omega) (by omega) ?_))))
    refine Ad rfl rfl (Ab (Aa ?_))
    refine ⟨i+1,rfl,⟨rfl,trivial⟩,⟨by omega,H,fun j' e' hj he'=>?_⟩,by omega⟩
    rcases Nat.lt_or_ge j' i with h3 | h3
    ·exact hbf j' e' h3 he'
    ·obtain rfl:j'=i:=by omega
     rw [he] at he'; cases he'
     simpa using h2
  ·intro h1
   replace h1:=AF h1
   obtain rfl:i=es.length:=by omega
   refine Bh (Aj (Aj (AG (Aa (Af (Ae rfl rfl (Ab (Aa (A5 (A8 (v:=(.int _ _)) rfl rfl rfl ?_))))))))))
   refine ⟨-1,rfl,⟨fun h=>by omega,fun h=>?_⟩,H.ext⟩
   exfalso
   have:es.all (Dw (r.N - 1))=true:=List.all_eq_true.2 fun e he=>by
    obtain ⟨k,hk⟩:=List.mem_iff_getElem?.1 he
    exact hbf k e (CA hk) hk
   rw [this] at h; cases h
theorem WA (r:Rnd) (q:RSl) (b:Nat) (a:Option Addr) (n c:Nat) (es:List Ed) (w:World) (hb:w.heap[b]? = some (Bl 33 (AJ r q))) (hN : -9223372036854775808<r.N∧r.N≤9223372036854775807) (R:Rd w a 4 Bv es) (hn:es.length=n) (hn2:n≤1000000) :
  Ret Tryz.prog 94 #[.slice a n c,Za b] w fun v w'=>v = .bool (!es.all (Dw (r.N - 1)))∧Ext [] w w':=by
 obtain ⟨w0,rfl⟩:∃ w0,w0=w:=⟨_,rfl⟩
 have H:=Ctx.start w0 []
 refine A2 (fn:=Tryz.f94) Tryz.func94 rfl [.slice a n c,.func (.func 95) #[] #[.pointer (some ⟨b,0,none⟩)]] rfl (by kernel_rfl) ?_
 refine Af (Ai rfl rfl (Ab (Aa (Af (An rfl rfl (BX rfl (.func (.func 95) #[] #[.pointer (some ⟨b,0,none⟩)]) rfl ?_))))))
 refine Am rfl ZN (Y0 r q b a n c es _ (H.ext.to hb (by simp)) hN (R.ext0 H.ext) hn hn2) rfl ?_
 rintro v w ⟨i,rfl,hi,hx7⟩
 replace H:=H.call hx7
 refine CC rfl rfl rfl (Ai rfl rfl (Ab (Aa (A5 (A8 (v:=(.bool _)) rfl rfl rfl ?_)))))
 refine ⟨congrArg Value.bool ?_,H.ext⟩
 rw [Bool.eq_iff_iff,decide_eq_true_eq,Bool.not_eq_true',← hi]
def Fs (h:Int) (rest:List Ed) (b:Nat):Bool:=decide (rest.getD (2*b) e0=⟨h,b,(rest.getD (2*b) e0).cap,0⟩) && decide (rest.getD (2*b+1) e0=⟨b,h,4503599627370496,0⟩)
def Ix (r:Rnd):Bool:=((((DV r.N r.es r.fl r.pot && decide (0≤r.day)) && decide (r.ids.length≤64)) && decide r.ids.Nodup) && decide (r.N - 1≤16)) && decide (r.ids.length≤r.es.length)
def GL (r:Rnd):Bool:=if r.cmp=true then decide ((r.es.drop r.ids.length).length=0) else decide (((r.es.drop r.ids.length).length:Int)=2*(r.N - 1)) && (List.range (r.N - 1).toNat).all (Fs (r.N - 1) (r.es.drop r.ids.length))
/-- Is a round right? -/
def Bx (r:Rnd):Bool:=Ix r && ((r.es.take r.ids.length).all (Dw (r.N - 1)) && GL r)
theorem Ms {r:Rnd} (h:Ix r=true):DV r.N r.es r.fl r.pot=true∧0≤r.day∧r.ids.length≤64∧r.ids.Nodup∧r.N - 1≤16∧r.ids.length≤r.es.length:=by
 unfold Ix at h
 simp only [Bool.and_eq_true,decide_eq_true_eq] at h
 exact ⟨h.1.1.1.1.1,h.1.1.1.1.2,h.1.1.1.2,h.1.1.2,h.1.2,h.2⟩
theorem IM {N:Int} {es:List Ed} {fl pot:List Int} (h:DV N es fl pot=true):1≤N∧N≤40∧es.length≤200∧fl.length=es.length∧(pot.length:Int)=N:=by
 obtain ⟨h1,h2,-⟩:=Fq.1 h
 have h3:=BA (E5 h1).1
 have h4:=BM h3.2.1
 exact ⟨h4.1,h4.2.1,h4.2.2.1,h3.1,(Jr h2).1⟩
set_option maxRecDepth 20000 in
set_option maxHeartbeats 8000000 in
theorem Ft (r:Rnd) (q:RSl) (w:World) (RA:RAt w r q) (hEc:r.es.length≤q.cE) (hr:RBnd r):Ret Tryz.prog 36 #[.agg (AJ r q).toArray] w fun v w'=>v = .bool (Bx r)∧Ext [] w w':=by
 obtain ⟨w0,rfl⟩:∃ w0,w0=w:=⟨_,rfl⟩
 have H:=Ctx.start w0 []
 have hNb:=hr.N
 unfold I64 at hNb
 have h1e:=hr.es
 have h1i:=hr.ids
 obtain ⟨ck,hck⟩:∃ ck,ck=DV r.N r.es r.fl r.pot:=⟨_,rfl⟩
 have hN:ck=true→1≤r.N∧r.N≤40:=fun h=>⟨(IM (hck.symm.trans h)).1,(IM (hck.symm.trans h)).2.1⟩
 obtain ⟨nd,hnd⟩:∃ nd,nd=decide r.ids.Nodup:=⟨_,rfl⟩
 refine A2 (fn:=Tryz.f36) Tryz.func36 rfl [.agg (AJ r q).toArray] rfl (by kernel_rfl) ?_
 have hhd:Ix r=(((((ck && decide (0≤r.day)) && decide (r.ids.length≤64)) && nd) && decide (r.N - 1≤16)) && decide (r.ids.length≤r.es.length)):=by unfold Ix; rw [← hck,← hnd]
 refine Af (Bu rfl (AJ r q) (.agg _) rfl rfl H ?_)
 rintro b1 w - H
 refine Ai rfl rfl (Ab (Aa (Af (Ah rfl Ew rfl (A9 rfl EH rfl H at0 rfl (Bc rfl Bb rfl (Ae rfl rfl (Ab (Aa (Au (Af (BP (α:=Unit) 17592186043392 (fun _=>[(43,.bool (!Ix r))]) (fun _ w'=>Ctx w0 [] w' [(b1,Bl 33 (AJ r q))]) rfl ?_ ?_))))))))))))
 ·refine Ah rfl CG rfl (Ce _ rfl Cp Cc rfl rfl ((C1 (b:=b1) (t:=33) (l:=AJ r q) (H.get at0) 4 [.int .i64 r.N,.slice q.aE r.es.length q.cE] rfl)) ?_)
  refine Ah rfl Ex rfl (Ce _ rfl Nn KA rfl rfl ((C1 (b:=b1) (t:=33) (l:=AJ r q) (H.get at0) 6 [.slice q.aF r.fl.length q.cF,.slice q.aP r.pot.length q.cP] rfl)) ?_)
  refine Am rfl ca_66 (VP r.N q.aE q.aF q.aP _ q.cE _ q.cF _ q.cP r.es r.fl r.pot _ (RA.E.ext0 H.ext) rfl hr.N (RA.F.ext0 H.ext) rfl (by have:=hr.fl; omega) (RA.P.ext0 H.ext) rfl (by have:=hr.pot; omega)) rfl ?_
  rintro v w ⟨rfl,hx14⟩
  rw [← hck]
  replace H:=H.call hx14
  refine Bs rfl rfl (Al rfl rfl (AD 16 rfl ?_ ?_))
  ·intro h1
   replace h1:=Bp h1
   refine Ag rfl (Ag rfl (Ag rfl (Av rfl rfl (.bool _) rfl (Al rfl rfl (Ag rfl (Ag rfl (Av rfl rfl (.bool _) rfl (Al rfl rfl (Ag rfl ?_)))))))))
   refine Ag rfl (Ag rfl (Ag rfl (Av rfl rfl (.bool _) rfl (Al rfl rfl (Ag rfl (Ag rfl (Ag rfl (Av rfl rfl (.bool _) rfl (Al rfl rfl ?_)))))))))
   refine Ag rfl (Ag rfl (Ag rfl (Ag rfl (Ag rfl (Ag rfl (Av rfl rfl (.bool _) rfl (Ab ?_)))))))
   exact ⟨rfl,(),rfl,⟨congrArg Value.bool (by rw [hhd,Bool.eq_iff_iff]; simp_all; done),trivial⟩,H⟩
  ·intro h2
   replace h2:=Bq h2
   refine Ah rfl Oj rfl (A9 rfl B1 rfl H at0 rfl (AO rfl rfl rfl (A7 rfl rfl (.bool _) rfl (Al rfl rfl (AD 21 rfl ?_ ?_)))))
   ·intro h3
    replace h3:=AE h3
    refine Ag rfl (Ag rfl (Av rfl rfl (.bool _) rfl (Al rfl rfl (Ag rfl (Ag rfl (Ag rfl (Ag rfl (Av rfl rfl (.bool _) rfl (Al rfl rfl ?_)))))))))
    refine Ag rfl (Ag rfl (Ag rfl (Av rfl rfl (.bool _) rfl (Al rfl rfl (Ag rfl (Ag rfl (Ag rfl (Ag rfl (Ag rfl ?_)))))))))
    refine Ag rfl (Av rfl rfl (.bool _) rfl (Ab ?_))
    exact ⟨rfl,(),rfl,⟨congrArg Value.bool (by rw [hhd,Bool.eq_iff_iff]; simp_all; done),trivial⟩,H⟩
   ·intro h4
    replace h4:=AF h4
    refine Ad rfl rfl (Cz rfl rfl rfl (A7 rfl rfl (.bool _) rfl (Al rfl rfl (AD 25 rfl ?_ ?_))))
    ·intro h5
     replace h5:=AE h5
     refine Ag rfl (Ag rfl (Ag rfl (Ag rfl (Av rfl rfl (.bool _) rfl (Al rfl rfl (Ag rfl (Ag rfl (Ag rfl (Av rfl rfl (.bool _) rfl ?_)))))))))
     refine Al rfl rfl (Ag rfl (Ag rfl (Ag rfl (Ag rfl (Ag rfl (Ag rfl (Av rfl rfl (.bool _) rfl (Ab ?_))))))))
     exact ⟨rfl,(),rfl,⟨congrArg Value.bool (by rw [hhd,Bool.eq_iff_iff]; simp_all; omega),trivial⟩,H⟩
    ·intro h6
     replace h6:=AF h6
     refine Ah rfl Ew rfl (A9 rfl EH rfl H at0 rfl (Am rfl ca_93 (Yy q.aI _ q.cI r.ids _ (RA.I.ext0 H.ext) rfl hr.ids) rfl ?_))
     rintro v w ⟨rfl,hx28⟩
     rw [← hnd]
     replace H:=H.call hx28
     refine Bs rfl rfl (A7 rfl rfl (.bool _) rfl (Al rfl rfl (AD 31 rfl ?_ ?_)))
     ·intro h7
      replace h7:=Bp h7
      refine Ag rfl (Ag rfl (Ag rfl (Av rfl rfl (.bool _) rfl (Al rfl rfl (Ag rfl (Ag rfl (Ag rfl (Ag rfl (Ag rfl ?_)))))))))
      refine Ag rfl (Av rfl rfl (.bool _) rfl (Ab ?_))
      exact ⟨rfl,(),rfl,⟨congrArg Value.bool (by rw [hhd,Bool.eq_iff_iff]; simp_all; done),trivial⟩,H⟩
     ·intro h8
      replace h8:=Bq h8
      refine Bf rfl CB Cw rfl H at0 rfl (Am rfl HR (FM r q _ (by have:=hN (by simp_all); omega)) rfl ?_)
      rintro v w ⟨rfl,hx33⟩
      replace H:=H.call hx33
      refine Cz rfl rfl rfl (A7 rfl rfl (.bool _) rfl (Al rfl rfl (AD 36 rfl ?_ ?_)))
      ·intro h9
       replace h9:=AE h9
       refine Ag rfl (Ag rfl (Ag rfl (Ag rfl (Ag rfl (Ag rfl (Av rfl rfl (.bool _) rfl (Ab ?_)))))))
       exact ⟨rfl,(),rfl,⟨congrArg Value.bool (by rw [hhd,Bool.eq_iff_iff]; simp_all; done),trivial⟩,H⟩
      ·intro h10
       replace h10:=AF h10
       refine Ah rfl CG rfl (Ah rfl BO rfl (A9 rfl CF rfl H at0 rfl (Bc rfl BT rfl (Ad rfl rfl (AO rfl rfl rfl (A7 rfl rfl (.bool _) rfl (Ab ?_)))))))
       exact ⟨rfl,(),rfl,⟨congrArg Value.bool (by rw [hhd,Bool.eq_iff_iff]; simp_all; omega),trivial⟩,H⟩
 rintro - j43 w H
 refine Ax _ rfl ?_ ?_
 ·intro h1
  replace h1:=Bp h1
  refine Af (Ai rfl rfl (Ab (Aa (A5 (Ak (A8 (v:=(.bool _)) rfl rfl rfl ?_))))))
  exact ⟨congrArg Value.bool (by unfold Bx; rw [h1]; rfl),H.ext⟩
 ·intro h1
  replace h1:=Bq h1
  obtain ⟨g1,g2,g3,g4,g5,g6⟩:=Ms h1
  have hNN:=IM g1
  have RT:Rd w q.aE 4 Bv (r.es.take r.ids.length):=(RA.E.ext0 H.ext).take _
  have hRB:Bx r=((r.es.take r.ids.length).all (Dw (r.N - 1)) && GL r):=by unfold Bx; rw [h1]; rfl
  rw [hRB]
  obtain ⟨hh,hhN⟩:∃ hh:Nat,r.N - 1=hh:=⟨(r.N - 1).toNat,by omega⟩
  obtain ⟨rest,hrest⟩:∃ rest,rest=r.es.drop r.ids.length:=⟨_,rfl⟩
  have hrl:rest.length=r.es.length - r.ids.length:=by rw [hrest,List.length_drop]
  refine Ay (Aa (Af (Ah rfl CG rfl (Ah rfl BO rfl (A9 rfl CF rfl H at0 rfl (Ad rfl rfl (EU rfl BT B7 rfl rfl (by omega) (by omega) ?_)))))))
  refine AB rfl rfl (Ab (Aa (Au (Af (Ah rfl CG rfl (Ah rfl BO rfl (A9 rfl CF rfl H at0 rfl (Ad rfl rfl (F1 rfl BT B7 rfl rfl (by omega) (by omega) ?_)))))))))
  refine Cy rfl [.pointer _] rfl (Am rfl ca_94 (WA r q b1 q.aE _ q.cE (r.es.take r.ids.length) _ (H.get at0) (by omega) ((RA.E.ext0 H.ext).take _) (by rw [List.length_take]; omega) (by omega)) rfl ?_)
  rintro v w ⟨rfl,hx55⟩
  replace H:=H.call hx55
  refine Ab (Aa (Ax _ rfl ?_ ?_))
  ·intro h2
   refine Af (Ai rfl rfl (Ab (Aa (A5 (Ak (A8 (v:=(.bool _)) rfl rfl rfl ?_))))))
   exact ⟨congrArg Value.bool (by rw [Bool.not_eq_true'] at h2; rw [h2]; rfl),H.ext⟩
  ·intro h2
   have h2':(r.es.take r.ids.length).all (Dw (r.N - 1))=true:=by simpa using h2
   rw [h2',Bool.true_and]
   unfold GL
   rw [← hrest]
   refine Ay (Aa (Au (Af (Ah rfl IE rfl (A9 rfl Hs rfl H at0 rfl (Ab (Aa (Ax _ rfl ?_ ?_))))))))
   ·intro h3
    refine Af (An rfl rfl (Bc rfl BT rfl (BE rfl rfl rfl (Ai rfl rfl (Ab (Aa (A5 (Ak (A8 (v:=(.bool _)) rfl rfl rfl ?_)))))))))
    exact ⟨congrArg Value.bool (by rw [if_pos h3,Bool.eq_iff_iff,decide_eq_true_eq,decide_eq_true_eq]; omega),H.ext⟩
   ·intro h3
    rw [if_neg (by simp [h3])]
    refine Ay (Aa (Au (Af (An rfl rfl (Bc rfl BT rfl (Bf rfl CB Cw rfl H at0 rfl (Am rfl HR (FM r q _ (by omega)) rfl ?_)))))))
    rintro v w ⟨rfl,hx64⟩
    replace H:=H.call hx64
    refine Cg rfl rfl rfl (by omega) (by omega) ?_
    refine D6 rfl rfl rfl (Ab (Aa (Ax _ rfl ?_ ?_)))
    ·intro h4
     replace h4:=Eg h4
     refine Af (Ai rfl rfl (Ab (Aa (A5 (Ak (A8 (v:=(.bool _)) rfl rfl rfl ?_))))))
     exact ⟨congrArg Value.bool (by rw [decide_eq_false (by omega)]; rfl),H.ext⟩
    ·intro h4
     replace h4:=Eh h4
     rw [decide_eq_true (show (rest.length:Int)=2*(r.N - 1) by omega),Bool.true_and,hhN,Int.toNat_natCast]
     have RR:Rd w0 (Jj q.aE q.cE r.ids.length 4) 4 Bv rest:=by rw [hrest]; exact RA.E.cut _ _ hEc
     refine Ay (Aa (Au (Af (Bf rfl CB Cw rfl H at0 rfl (Am rfl HR (FM r q _ (by omega)) rfl ?_)))))
     rintro v w ⟨rfl,hx68⟩
     replace H:=H.call hx68
     refine Ad rfl rfl (Ab (Aa (Aw (Bm 158456324438232864828382249060 (α:=Nat) (fun i=>[(69,.int .i64 (i:Int))]) (fun i w'=>(i≤hh∧∀ b,b<i→Fs (hh:Int) rest b=true)∧Ctx w0 [] w' [(b1,Bl 33 (AJ r q))]) (fun i=>hh - i) 0 rfl ?_ ?_ ?_))))
     ·exact ⟨rfl,trivial⟩
     ·exact ⟨⟨Nat.zero_le _,fun b h=>absurd h (Nat.not_lt_zero _)⟩,H⟩
     ·clear H
      rintro i j w ⟨⟨hi,hbf⟩,H⟩
      refine Af (AO rfl rfl rfl (Ab (Aa (Au (Ax _ rfl ?_ ?_)))))
      ·intro h5
       replace h5:=AE h5
       obtain ⟨x,hxe⟩:=AH (l:=rest) (i:=2*i) (by omega)
       obtain ⟨y,hye⟩:=AH (l:=rest) (i:=2*i+1) (by omega)
       have hat:Fs (hh:Int) rest i=(decide (x=⟨hh,i,x.cap,0⟩) && decide (y=⟨i,hh,4503599627370496,0⟩)):=by unfold Fs; rw [Bi hxe,Bi hye]
       have hidx:(2*(i:Int)).toNat=2*i:=by omega
       have hidx2:(2*(i:Int)+1).toNat=2*i+1:=by omega
       have hno:Fs (hh:Int) rest i=false→(List.range hh).all (Fs (hh:Int) rest)=false:=fun h=>by
        rw [← Bool.not_eq_true,List.all_eq_true]
        intro h9
        have:=h9 i (List.mem_range.2 (by omega))
        rw [h] at this; cases this
       refine Ay (Aa (Au (Aw (Af (Ad rfl rfl (Ae rfl rfl (Ab (Aa (Af (An rfl rfl (Ad rfl rfl ?_)))))))))))
       refine Cg rfl rfl rfl (by omega) (by omega) ?_
       refine Ba RR rfl BT B7 rfl rfl (by omega) (by omega) (by omega) ?_
       rw [hidx]
       refine Ce _ rfl Ec B7 rfl rfl (((RR.ext0 H.ext).row hxe rfl)) ?_
       refine Bn rfl Dq H ?_
       rintro b6 w - H
       refine BG rfl B7 rfl rfl rfl (by exact CN _) H at0 rfl ?_
       rintro w H
       refine Ab (Aa ?_)
       have HG:=H
       have hb6:=H.get at0
       have hb1:=H.get at1
       obtain ⟨w3,rfl⟩:∃ z,z=w:=⟨_,rfl⟩
       have H:=Ctx.start w3 []
       refine CK [([0,1,2,3,4],5),([6,7,8,9,10,11,12,13,14,15],16),([17],18)] (fun z=>Ext [] w3 z) [] B5 (by kernel_rfl) (Ext.drew [] w3) ?_
       refine AR rfl rfl ?_
       refine F2 _ rfl Ec B7 rfl rfl (fun _ hx=>(C1 (b:=b6) (t:=92) (l:=Bv x) (hx.to hb6 (by simp)) 0 (Bv x) rfl)) ?_
       refine F2 _ rfl CB Cw rfl rfl (fun _ hx=>(C1 (b:=b1) (t:=33) (l:=AJ r q) (hx.to hb1 (by simp)) 0 (AJ r q) rfl)) ?_
       refine AP rfl rfl (AM rfl CH rfl (Cb rfl B1 rfl (fun _ hx=>(by rw [Ap (hx.to hb6 (by simp))]; rfl)) ?_))
       refine B6 ?_
       replace H:=H.drew
       refine Am rfl YN (YZ r q i x.cap _ (by omega)) rfl ?_
       rintro v w ⟨rfl,hx82⟩
       replace H:=H.call hx82
       rw [hhN]
       refine Ab (C4 (H.ext) (AR rfl rfl ?_))
       refine YY (ks:=[true,true,true,true]) (xs:=Bv x) (ys:=Bv ⟨hh,i,x.cap,0⟩) (decide (x=⟨hh,i,x.cap,0⟩)) rfl (by kernel_rfl) rfl rfl ⟨rfl,rfl,rfl,rfl,trivial⟩ (Mq _ _) ?_
       refine NZ rfl rfl (LF 84 rfl ?_ ?_)
       ·intro h6
        refine DQ rfl (DQ rfl (DQ rfl (DQ rfl (DQ rfl (DQ rfl (DQ rfl (DQ rfl (B6 (Ag rfl ?_)))))))))
        refine Ab (C4 (H.ext) (AR rfl rfl ?_))
        refine DQ rfl (B6 (Av rfl rfl (.bool _) rfl (Ab (C4 (H.ext) (BW (CL rfl (Af (Ai rfl rfl (Ab (Aa (A5 (A3 (Ak (Ak (A3 (Ak (A8 (v:=(.bool _)) rfl rfl rfl ?_)))))))))))))))))
        have h6':¬ x=⟨hh,i,x.cap,0⟩:=by simpa using h6
        exact ⟨congrArg Value.bool (hno (by rw [hat,decide_eq_false h6']; rfl)).symm,HG.ext.trans H.ext⟩
       ·intro h6
        refine Bo rfl rfl (AP rfl rfl (T6 rfl rfl rfl (by omega) (by omega) ?_))
        refine DR rfl rfl rfl (by omega) (by omega) ?_
        refine CI RR rfl BT B7 rfl rfl (by omega) (by omega) (by omega) ?_
        rw [hidx2]
        refine F2 _ rfl Ec B7 rfl rfl (fun _ hx=>((RR.ext0 (HG.ext.trans hx)).row hye rfl)) ?_
        refine F2 _ rfl CB Cw rfl rfl (fun _ hx=>(C1 (b:=b1) (t:=33) (l:=AJ r q) (hx.to hb1 (by simp)) 0 (AJ r q) rfl)) ?_
        refine AP rfl rfl (B6 (Am rfl YO (W9 r q i _ (by omega)) rfl ?_))
        rintro v w ⟨rfl,hx93⟩
        replace H:=H.call hx93
        rw [hhN]
        refine Ab (C4 (H.ext) (AR rfl rfl ?_))
        refine YY (ks:=[true,true,true,true]) (xs:=Bv y) (ys:=Bv ⟨i,hh,4503599627370496,0⟩) (decide (y=⟨i,hh,4503599627370496,0⟩)) rfl (by kernel_rfl) rfl rfl ⟨rfl,rfl,rfl,rfl,trivial⟩ (Mq _ _) ?_
        refine B6 (A7 rfl rfl (.bool _) rfl (Ab (C4 (H.ext) (BW (Ax _ rfl ?_ ?_)))))
        ·intro h7
         refine Af (Ai rfl rfl (Ab (Aa (A5 (A3 (Ak (Ak (A3 (Ak (A8 (v:=(.bool _)) rfl rfl rfl ?_))))))))))
         have h7':¬ y=⟨i,hh,4503599627370496,0⟩:=by simpa using h7
         exact ⟨congrArg Value.bool (hno (by rw [hat,decide_eq_false h7',Bool.and_false])).symm,HG.ext.trans H.ext⟩
        ·intro h7
         refine Ay (A1 (Aa (Aq (Ao rfl rfl rfl (by omega) (by omega) ?_))))
         refine Ad rfl rfl (Ab (Aa ?_))
         refine ⟨i+1,rfl,⟨rfl,trivial⟩,⟨⟨by omega,fun b hb=>?_⟩,(HG.call H.ext).tail⟩,by omega⟩
         rcases Nat.lt_or_ge b i with h8 | h8
         ·exact hbf b h8
         ·obtain rfl:b=i:=by omega
          have h6':x=⟨hh,b,x.cap,0⟩:=by simpa using h6
          have h7':y=⟨b,hh,4503599627370496,0⟩:=by simpa using h7
          rw [hat,decide_eq_true h6',decide_eq_true h7']; rfl
      ·intro h5
       replace h5:=AF h5
       obtain rfl:i=hh:=by omega
       refine Bh (Aj (Aj (AG (Aa (Af (Ai rfl rfl (Ab (Aa (A5 (A8 (v:=(.bool _)) rfl rfl rfl ?_))))))))))
       exact ⟨congrArg Value.bool (List.all_eq_true.2 fun b hb=>hbf b (List.mem_range.1 hb)).symm,H.ext⟩
end Go.Proofs.YtapphbmlkdhnmaaGreat

/- Whether a round is right: the walk of the reference's. -/
namespace Go.Proofs.YtapphbmlkdhnmaaGreat
open Go.GV
attribute [local irreducible] A4 W Wq Wt

theorem To {x:Ed} {f t c:Int}:x=⟨f,t,x.cap,c⟩↔(x.f=f∧x.t=t)∧x.cost=c:=by
 obtain ⟨a,b,c',d⟩:=x
 simp [and_assoc]
theorem Qt {l:List Int}:l.Nodup↔∀ (k i:Nat) (x y:Int),k<i→l[k]? = some x→l[i]? = some y→x≠y:=by
 rw [List.Nodup,List.pairwise_iff_getElem]
 constructor
 ·intro h k i x y hki hx hy
  obtain ⟨h1,rfl⟩:=List.getElem?_eq_some_iff.1 hx
  obtain ⟨h2,rfl⟩:=List.getElem?_eq_some_iff.1 hy
  exact h k i h1 h2 hki
 ·intro h i j hi hj hij
  exact h i j _ _ hij (List.getElem?_eq_getElem hi) (List.getElem?_eq_getElem hj)
/-- The same, as far as one has gone. -/
def ND (r:Rnd) (z:Int):Bool:=((((DV r.N r.es r.fl r.pot && decide (0≤r.day)) && decide (r.ids.length≤64)) && decide (0≤z)) && decide (z≤16)) && decide (r.ids.length≤r.es.length)
set_option maxRecDepth 20000 in
set_option maxHeartbeats 16000000 in
theorem NE (r:Rnd) (q:RSl) (w:World) (RA:RAt w r q) (hEc:r.es.length≤q.cE) (hr:RBnd r):Ret Tryz.prog 31 #[.agg (AJ r q).toArray] w fun v w'=>v = .bool (Bx r)∧Ext [] w w':=by
 obtain ⟨w0,rfl⟩:∃ w0,w0=w:=⟨_,rfl⟩
 have H:=Ctx.start w0 []
 have hNb:=hr.N
 unfold I64 at hNb
 have h1e:=hr.es
 have h1i:=hr.ids
 obtain ⟨ck,hck⟩:∃ ck,ck=DV r.N r.es r.fl r.pot:=⟨_,rfl⟩
 refine A2 (fn:=Tryz.f31) Tryz.func31 rfl [.agg (AJ r q).toArray] rfl (by kernel_rfl) ?_
 refine Af (Bu rfl (AJ r q) (.agg _) rfl rfl H ?_)
 rintro b1 w - H
 refine Ai rfl rfl (Ab (Aa (Af (Ah rfl Ew rfl (A9 rfl EH rfl H at0 rfl (Bc rfl Bb rfl (Ae rfl rfl (Ab (Aa (Af (Ah rfl CG rfl ?_)))))))))))
 refine Ah rfl CZ rfl (A9 rfl BC rfl H at0 rfl (Se rfl rfl rfl ?_))
 intro z hz
 refine Ae rfl rfl (Ab (Aa (Au ?_)))
 have hhd:ND r z=(((((ck && decide (0≤r.day)) && decide (r.ids.length≤64)) && decide (0≤z)) && decide (z≤16)) && decide (r.ids.length≤r.es.length)):=by unfold ND; rw [← hck]
 refine Af (BP (α:=Unit) 1125899906318336 (fun _=>[(49,.bool (!ND r z))]) (fun _ w'=>Ctx w0 [] w' [(b1,Bl 33 (AJ r q))]) rfl ?_ ?_)
 ·refine Ah rfl CG rfl (Ce _ rfl Cp Cc rfl rfl ((C1 (b:=b1) (t:=33) (l:=AJ r q) (H.get at0) 4 [.int .i64 r.N,.slice q.aE r.es.length q.cE] rfl)) ?_)
  refine Ah rfl Ex rfl (Ce _ rfl Nn KA rfl rfl ((C1 (b:=b1) (t:=33) (l:=AJ r q) (H.get at0) 6 [.slice q.aF r.fl.length q.cF,.slice q.aP r.pot.length q.cP] rfl)) ?_)
  refine Am rfl YH (KL r.N q.aE q.aF q.aP _ q.cE _ q.cF _ q.cP r.es r.fl r.pot _ (RA.E.ext0 H.ext) rfl hr.es (RA.F.ext0 H.ext) rfl hr.fl (RA.P.ext0 H.ext) rfl hr.pot) rfl ?_
  rintro v w ⟨rfl,hx23⟩
  rw [← hck]
  replace H:=H.call hx23
  refine Bs rfl rfl (Al rfl rfl (AD 25 rfl ?_ ?_))
  ·intro h1
   replace h1:=Bp h1
   refine Ag rfl (Ag rfl (Ag rfl (Av rfl rfl (.bool _) rfl (Al rfl rfl (Ag rfl (Ag rfl (Av rfl rfl (.bool _) rfl (Al rfl rfl (Ag rfl ?_)))))))))
   refine Ag rfl (Av rfl rfl (.bool _) rfl (Al rfl rfl (Ag rfl (Ag rfl (Av rfl rfl (.bool _) rfl (Al rfl rfl (Ag rfl (Ag rfl (Ag rfl ?_)))))))))
   refine Ag rfl (Ag rfl (Ag rfl (Av rfl rfl (.bool _) rfl (Ab ?_))))
   exact ⟨rfl,(),rfl,⟨congrArg Value.bool (by rw [hhd,Bool.eq_iff_iff]; simp_all; done),trivial⟩,H⟩
  ·intro h2
   replace h2:=Bq h2
   refine Ah rfl Oj rfl (A9 rfl B1 rfl H at0 rfl (AO rfl rfl rfl (A7 rfl rfl (.bool _) rfl (Al rfl rfl (AD 30 rfl ?_ ?_)))))
   ·intro h3
    replace h3:=AE h3
    refine Ag rfl (Ag rfl (Av rfl rfl (.bool _) rfl (Al rfl rfl (Ag rfl (Ag rfl (Av rfl rfl (.bool _) rfl (Al rfl rfl (Ag rfl (Ag rfl ?_)))))))))
    refine Av rfl rfl (.bool _) rfl (Al rfl rfl (Ag rfl (Ag rfl (Ag rfl (Ag rfl (Ag rfl (Ag rfl (Av rfl rfl (.bool _) rfl (Ab ?_)))))))))
    exact ⟨rfl,(),rfl,⟨congrArg Value.bool (by rw [hhd,Bool.eq_iff_iff]; simp_all; done),trivial⟩,H⟩
   ·intro h4
    replace h4:=AF h4
    refine Ad rfl rfl (Cz rfl rfl rfl (A7 rfl rfl (.bool _) rfl (Al rfl rfl (AD 34 rfl ?_ ?_))))
    ·intro h5
     replace h5:=AE h5
     refine Ag rfl (Ag rfl (Av rfl rfl (.bool _) rfl (Al rfl rfl (Ag rfl (Ag rfl (Av rfl rfl (.bool _) rfl (Al rfl rfl (Ag rfl (Ag rfl ?_)))))))))
     refine Ag rfl (Ag rfl (Ag rfl (Ag rfl (Av rfl rfl (.bool _) rfl (Ab ?_)))))
     exact ⟨rfl,(),rfl,⟨congrArg Value.bool (by rw [hhd,Bool.eq_iff_iff]; simp_all; omega),trivial⟩,H⟩
    ·intro h6
     replace h6:=AF h6
     refine Ad rfl rfl (AO rfl rfl rfl (A7 rfl rfl (.bool _) rfl (Al rfl rfl (AD 38 rfl ?_ ?_))))
     ·intro h7
      replace h7:=AE h7
      refine Ag rfl (Ag rfl (Av rfl rfl (.bool _) rfl (Al rfl rfl (Ag rfl (Ag rfl (Ag rfl (Ag rfl (Ag rfl (Ag rfl ?_)))))))))
      refine Av rfl rfl (.bool _) rfl (Ab ?_)
      exact ⟨rfl,(),rfl,⟨congrArg Value.bool (by rw [hhd,Bool.eq_iff_iff]; simp_all; done),trivial⟩,H⟩
     ·intro h8
      replace h8:=AF h8
      refine Ad rfl rfl (Cz rfl rfl rfl (A7 rfl rfl (.bool _) rfl (Al rfl rfl (AD 42 rfl ?_ ?_))))
      ·intro h9
       replace h9:=AE h9
       refine Ag rfl (Ag rfl (Ag rfl (Ag rfl (Ag rfl (Ag rfl (Av rfl rfl (.bool _) rfl (Ab ?_)))))))
       exact ⟨rfl,(),rfl,⟨congrArg Value.bool (by rw [hhd,Bool.eq_iff_iff]; simp_all; done),trivial⟩,H⟩
      ·intro h10
       replace h10:=AF h10
       refine Ah rfl CG rfl (Ah rfl BO rfl (A9 rfl CF rfl H at0 rfl (Bc rfl BT rfl (Ad rfl rfl (AO rfl rfl rfl (A7 rfl rfl (.bool _) rfl (Ab ?_)))))))
       exact ⟨rfl,(),rfl,⟨congrArg Value.bool (by rw [hhd,Bool.eq_iff_iff]; simp_all; omega),trivial⟩,H⟩
 rintro - j49 w H
 refine Ax _ rfl ?_ ?_
 ·intro h1
  replace h1:=Bp h1
  refine Af (Ai rfl rfl (Ab (Aa (A5 (Ak (A8 (v:=(.bool _)) rfl rfl rfl ?_))))))
  refine ⟨congrArg Value.bool (Eq.symm ?_),H.ext⟩
  rw [← Bool.not_eq_true]
  intro hR
  unfold Bx at hR
  rw [Bool.and_eq_true] at hR
  obtain ⟨g1,g2,g3,-,g5,g6⟩:=Ms hR.1
  have hNN:=IM g1
  have hz':=hz (by omega) (by omega)
  have:ND r z=true:=by unfold ND; rw [g1,decide_eq_true g2,decide_eq_true g3,decide_eq_true (show 0≤z by omega),decide_eq_true (show z≤16 by omega),decide_eq_true g6]; rfl
  rw [this] at h1; cases h1
 ·intro h1
  replace h1:=Bq h1
  unfold ND at h1
  simp only [Bool.and_eq_true,decide_eq_true_eq] at h1
  obtain ⟨⟨⟨⟨⟨g1,g2⟩,g3⟩,gz0⟩,gz16⟩,g6⟩:=h1
  have hNN:=IM g1
  obtain rfl:z=r.N - 1:=hz (by omega) (by omega)
  obtain ⟨hh,hhN⟩:∃ hh:Nat,r.N - 1=hh:=⟨(r.N - 1).toNat,by omega⟩
  have hRB:Bx r=(decide r.ids.Nodup && ((r.es.take r.ids.length).all (Dw (r.N - 1)) && GL r)):=by
   unfold Bx Ix
   rw [g1,decide_eq_true g2,decide_eq_true g3,decide_eq_true gz16,decide_eq_true g6]
   simp
  rw [hhN] at hRB ⊢
  have RI:=RA.I
  have RE:=RA.E
  have hno:∀ (i:Nat) (e:Ed),i<r.ids.length→r.es[i]? = some e→Dw (hh:Int) e=false→Bx r=false:=fun i e hi he hw=>by
   rw [hRB,← Bool.not_eq_true,Bool.and_eq_true,Bool.and_eq_true,List.all_eq_true]
   rintro ⟨-,h9,-⟩
   have:=h9 e (List.mem_of_getElem? (by rw [List.getElem?_take,if_pos hi]; exact he))
   rw [hw] at this; cases this
  refine Ay (Aa (Au (Af (Ae rfl rfl (Ab (Aa (Aw (Bm 649037107316853452440412134310116 (α:=Nat) (fun i=>[(5,.int .i64 (i:Int))]) (fun i w'=>(i≤r.ids.length∧(∀ (k j:Nat) (x y:Int),k<j→j<i→r.ids[k]? = some x→r.ids[j]? = some y→x≠y)∧∀ (j:Nat) (e:Ed),j<i→r.es[j]? = some e→Dw (hh:Int) e=true)∧Ctx w0 [] w' [(b1,Bl 33 (AJ r q))]) (fun i=>r.ids.length - i) 0 rfl ?_ ?_ ?_))))))))
  ·exact ⟨rfl,trivial⟩
  ·exact ⟨⟨Nat.zero_le _,fun k j x y _ h=>absurd h (Nat.not_lt_zero _),fun j e h=>absurd h (Nat.not_lt_zero _)⟩,H⟩
  ·clear H
   rintro i j5 w ⟨⟨hi,hbn,hbd⟩,H⟩
   refine Au (Af (Ad rfl rfl (Ad rfl rfl (AO rfl rfl rfl (Ab (Aa (Ax _ rfl ?_ ?_)))))))
   ·intro h2
    replace h2:=AE h2
    obtain ⟨xi,hxi⟩:=AH (l:=r.ids) (i:=i) (by omega)
    obtain ⟨e,he⟩:=AH (l:=r.es) (i:=i) (by omega)
    refine Ay (Aa (Au (Aw (Au (Af (Ae rfl rfl (Ab (Aa (Aw (Bm 2361147212637803642948 (α:=Nat) (fun k=>[(6,.int .i64 (k:Int))]) (fun k w'=>(k≤i∧∀ (j:Nat) (x:Int),j<k→r.ids[j]? = some x→x≠xi)∧Ctx w0 [] w' [(b1,Bl 33 (AJ r q))]) (fun k=>i - k) 0 rfl ?_ ?_ ?_))))))))))
    ·exact ⟨rfl,trivial⟩
    ·exact ⟨⟨Nat.zero_le _,fun j x h=>absurd h (Nat.not_lt_zero _)⟩,H⟩
    ·clear H
     rintro k j6 w ⟨⟨hk,hbk⟩,H⟩
     refine Au (Af (Ad rfl rfl (Ad rfl rfl (AO rfl rfl rfl (Ab (Aa (Ax _ rfl ?_ ?_)))))))
     ·intro h3
      replace h3:=AE h3
      obtain ⟨xk,hxk⟩:=AH (l:=r.ids) (i:=k) (by omega)
      refine Ay (Aa (Au (Aw (EF (fun x=>x=_) B5 (by kernel_rfl) rfl ?_))))
      refine AA rfl Ew rfl (Cf rfl EH rfl (by rintro _ rfl; exact H.drew) at0 rfl ?_)
      refine AN rfl rfl (Cs RI rfl Bb AZ rfl rfl (by omega) (by omega) (by rfl) ?_)
      refine Cd rfl BJ rfl (by rintro _ rfl; exact (((RI.ext0 H.drew.ext).fld hxk rfl (j:=0) rfl))) ?_
      refine AA rfl Ew rfl (Cf rfl EH rfl (by rintro _ rfl; exact H.drew) at0 rfl ?_)
      refine AN rfl rfl (Cs RI rfl Bb AZ rfl rfl (by omega) (by omega) (by rfl) ?_)
      refine Cd rfl BJ rfl (by rintro _ rfl; exact (((RI.ext0 H.drew.ext).fld hxi rfl (j:=0) rfl))) ?_
      refine Ss rfl rfl rfl (BZ ?_)
      rintro _ rfl
      replace H:=H.drew
      refine Ax _ rfl ?_ ?_
      ·intro h4
       replace h4:=AE h4
       refine Af (Ai rfl rfl (Ab (Aa (A5 (A3 (Ak (Ak (A3 (Ak (A3 (Ak (Ak (A3 (Ak (A8 (v:=(.bool _)) rfl rfl rfl ?_)))))))))))))))
       refine ⟨congrArg Value.bool (Eq.symm ?_),H.ext⟩
       rw [hRB,decide_eq_false (fun h=>(Qt.1 h) k i xk xi (by omega) hxk hxi h4)]; rfl
      ·intro h4
       replace h4:=AF h4
       refine Ay (A1 (Aa (Aq (Ad rfl rfl (Ao rfl rfl rfl (by omega) (by omega) ?_)))))
       refine Ae rfl rfl (Ab (Aa ?_))
       refine ⟨k+1,rfl,⟨rfl,trivial⟩,⟨⟨by omega,fun j x hj hx=>?_⟩,H⟩,by omega⟩
       rcases Nat.lt_or_ge j k with h5 | h5
       ·exact hbk j x h5 hx
       ·obtain rfl:j=k:=by omega
        rw [hxk] at hx; cases hx
        exact h4
     ·intro h3
      replace h3:=AF h3
      obtain rfl:k=i:=by omega
      refine Bh (Aj (Aj (AG (Aa (Af (Ah rfl CG rfl (Ah rfl BO rfl (A9 rfl CF rfl H at0 rfl (Ad rfl rfl (Ba RE rfl BT B7 rfl rfl (by omega) (by omega) (by rfl) ?_))))))))))
      refine Ce _ rfl Ec B7 rfl rfl (((RE.ext0 H.ext).row he rfl)) ?_
      refine Bn rfl Dq H ?_
      rintro b7 w - H
      refine BG rfl B7 rfl rfl rfl (by exact CN _) H at0 rfl ?_
      rintro w H
      refine Ab (Aa ?_)
      replace H:Ctx w0 [] _ [(b7,Bl 92 (Bv e)),(b1,Bl 33 (AJ r q))]:=H
      refine Af (BP (α:=Unit) 649037107165737726114483394314240 (fun _=>[(108,.bool (!Dw (hh:Int) e))]) (fun _ w'=>Ctx w0 [] w' [(b7,Bl 92 (Bv e)),(b1,Bl 33 (AJ r q))]) rfl ?_ ?_)
      ·refine Ah rfl CT rfl (A9 rfl BC rfl H at0 rfl (Ad rfl rfl (CC rfl rfl rfl (Al rfl rfl (AD 81 rfl ?_ ?_)))))
       ·intro h11
        replace h11:=AE h11
        refine Ag rfl (Ag rfl (Ag rfl (Ag rfl (Av rfl rfl (.bool _) rfl (Al rfl rfl (Ag rfl (Ag rfl (Ag rfl (Ag rfl ?_)))))))))
        refine Ag rfl (Av rfl rfl (.bool _) rfl (Al rfl rfl (Ag rfl (Ag rfl (Ag rfl (Av rfl rfl (.bool _) rfl (Al rfl rfl (Ag rfl (Ag rfl ?_)))))))))
        refine Ag rfl (Av rfl rfl (.bool _) rfl (Al rfl rfl (Ag rfl (Ag rfl (Ag rfl (Av rfl rfl (.bool _) rfl (Ab ?_)))))))
        exact ⟨rfl,(),rfl,⟨congrArg Value.bool (by unfold Dw; rw [Bool.eq_iff_iff]; simp_all; done),trivial⟩,H⟩
       ·intro h12
        replace h12:=AF h12
        refine Ah rfl Di rfl (A9 rfl BC rfl H at0 rfl (Ad rfl rfl (CC rfl rfl rfl (A7 rfl rfl (.bool _) rfl (Al rfl rfl (AD 87 rfl ?_ ?_))))))
        ·intro h13
         replace h13:=AE h13
         refine Ag rfl (Ag rfl (Ag rfl (Ag rfl (Ag rfl (Av rfl rfl (.bool _) rfl (Al rfl rfl (Ag rfl (Ag rfl (Ag rfl ?_)))))))))
         refine Av rfl rfl (.bool _) rfl (Al rfl rfl (Ag rfl (Ag rfl (Ag rfl (Av rfl rfl (.bool _) rfl (Al rfl rfl (Ag rfl (Ag rfl (Ag rfl ?_)))))))))
         refine Av rfl rfl (.bool _) rfl (Ab ?_)
         exact ⟨rfl,(),rfl,⟨congrArg Value.bool (by unfold Dw; rw [Bool.eq_iff_iff]; simp_all; done),trivial⟩,H⟩
        ·intro h14
         replace h14:=AF h14
         refine Ah rfl CT rfl (A9 rfl BC rfl H at0 rfl (Ah rfl Di rfl (A9 rfl BC rfl H at0 rfl (BE rfl rfl rfl (A7 rfl rfl (.bool _) rfl (Al rfl rfl (AD 94 rfl ?_ ?_)))))))
         ·intro h15
          replace h15:=AE h15
          refine Ag rfl (Ag rfl (Ag rfl (Av rfl rfl (.bool _) rfl (Al rfl rfl (Ag rfl (Ag rfl (Ag rfl (Av rfl rfl (.bool _) rfl (Al rfl rfl ?_)))))))))
          refine Ag rfl (Ag rfl (Ag rfl (Av rfl rfl (.bool _) rfl (Ab ?_))))
          exact ⟨rfl,(),rfl,⟨congrArg Value.bool (by unfold Dw; rw [Bool.eq_iff_iff]; simp_all; done),trivial⟩,H⟩
         ·intro h16
          replace h16:=AF h16
          refine Ah rfl CH rfl (A9 rfl B1 rfl H at0 rfl (AO rfl rfl rfl (A7 rfl rfl (.bool _) rfl (Al rfl rfl (AD 99 rfl ?_ ?_)))))
          ·intro h17
           replace h17:=AE h17
           refine Ag rfl (Ag rfl (Ag rfl (Av rfl rfl (.bool _) rfl (Al rfl rfl (Ag rfl (Ag rfl (Ag rfl (Av rfl rfl (.bool _) rfl (Ab ?_)))))))))
           exact ⟨rfl,(),rfl,⟨congrArg Value.bool (by unfold Dw; rw [Bool.eq_iff_iff]; simp_all; done),trivial⟩,H⟩
          ·intro h18
           replace h18:=AF h18
           refine Ah rfl Da rfl (A9 rfl B1 rfl H at0 rfl (AO rfl rfl rfl (A7 rfl rfl (.bool _) rfl (Al rfl rfl (AD 104 rfl ?_ ?_)))))
           ·intro h19
            replace h19:=AE h19
            refine Ag rfl (Ag rfl (Ag rfl (Av rfl rfl (.bool _) rfl (Ab ?_))))
            exact ⟨rfl,(),rfl,⟨congrArg Value.bool (by unfold Dw; rw [Bool.eq_iff_iff]; simp_all; done),trivial⟩,H⟩
           ·intro h20
            replace h20:=AF h20
            refine Ah rfl Da rfl (A9 rfl B1 rfl H at0 rfl (Cz rfl rfl rfl (A7 rfl rfl (.bool _) rfl (Ab ?_))))
            exact ⟨rfl,(),rfl,⟨congrArg Value.bool (by unfold Dw; rw [Bool.eq_iff_iff]; simp_all; done),trivial⟩,H⟩
      rintro - j108 w H
      refine Ax _ rfl ?_ ?_
      ·intro h4
       replace h4:=Bp h4
       refine Af (Ai rfl rfl (Ab (Aa (A5 (A3 (Ak (Ak (A3 (Ak (A8 (v:=(.bool _)) rfl rfl rfl ?_))))))))))
       exact ⟨congrArg Value.bool (hno k e (by omega) he h4).symm,H.ext⟩
      ·intro h4
       replace h4:=Bq h4
       refine Ay (A1 (Aa (Aq (Ad rfl rfl (Ao rfl rfl rfl (by omega) (by omega) ?_)))))
       refine Ae rfl rfl (Ab (Aa ?_))
       refine ⟨k+1,rfl,⟨rfl,trivial⟩,⟨⟨by omega,fun k' j x y hkj hj hx hy=>?_,fun j e' hj he'=>?_⟩,H.tail⟩,by omega⟩
       ·rcases Nat.lt_or_ge j k with h5 | h5
        ·exact hbn k' j x y hkj h5 hx hy
        ·obtain rfl:j=k:=by omega
         rw [hxi] at hy; cases hy
         exact hbk k' x hkj hx
       ·rcases Nat.lt_or_ge j k with h5 | h5
        ·exact hbd j e' h5 he'
        ·obtain rfl:j=k:=by omega
         rw [he] at he'; cases he'
         exact h4
   ·intro h2
    replace h2:=AF h2
    obtain rfl:i=r.ids.length:=by omega
    have hnd:r.ids.Nodup:=Qt.2 fun k j x y hkj hx hy=>hbn k j x y hkj (CA hy) hx hy
    have hall:(r.es.take r.ids.length).all (Dw (r.N - 1))=true:=List.all_eq_true.2 fun e he=>by
     obtain ⟨k,hk⟩:=List.mem_iff_getElem?.1 he
     rw [List.getElem?_take] at hk
     split at hk
     ·rename_i h7; rw [hhN]; exact hbd k e h7 hk
     ·cases hk
    obtain ⟨rest,hrest⟩:∃ rest,rest=r.es.drop r.ids.length:=⟨_,rfl⟩
    have hrl:rest.length=r.es.length - r.ids.length:=by rw [hrest,List.length_drop]
    have hRB2:Bx r=GL r:=by rw [hRB,decide_eq_true hnd,← hhN,hall,Bool.true_and,Bool.true_and]
    rw [hRB2]
    unfold GL
    rw [← hrest,hhN]
    refine Bh (Aj (Aj (AG (Aa (Af (Ah rfl CG rfl (Ah rfl BO rfl (A9 rfl CF rfl H at0 rfl (Ad rfl rfl (EU rfl BT B7 rfl rfl (by omega) (by omega) ?_))))))))))
    refine AB rfl rfl (Ab (Aa (Au (Af (Ah rfl IE rfl (A9 rfl Hs rfl H at0 rfl (Ab (Aa (Ax _ rfl ?_ ?_)))))))))
    ·intro h3
     refine Af (An rfl rfl (Bc rfl BT rfl (BE rfl rfl rfl (Ai rfl rfl (Ab (Aa (A5 (Ak (A8 (v:=(.bool _)) rfl rfl rfl ?_)))))))))
     exact ⟨congrArg Value.bool (by rw [if_pos h3,Bool.eq_iff_iff,decide_eq_true_eq,decide_eq_true_eq]; omega),H.ext⟩
    ·intro h3
     rw [if_neg (by simp [h3])]
     refine Ay (Aa (Au (Af (An rfl rfl (Bc rfl BT rfl (Ad rfl rfl (Cg rfl rfl rfl (by omega) (by omega) ?_)))))))
     refine D6 rfl rfl rfl (Ab (Aa (Ax _ rfl ?_ ?_)))
     ·intro h4
      replace h4:=Eg h4
      refine Af (Ai rfl rfl (Ab (Aa (A5 (Ak (A8 (v:=(.bool _)) rfl rfl rfl ?_))))))
      exact ⟨congrArg Value.bool (by rw [decide_eq_false (by omega)]; rfl),H.ext⟩
     ·intro h4
      replace h4:=Eh h4
      rw [decide_eq_true (show (rest.length:Int)=2*(hh:Int) by omega),Bool.true_and,Int.toNat_natCast]
      have RR:Rd w0 (Jj q.aE q.cE r.ids.length 4) 4 Bv rest:=by rw [hrest]; exact RA.E.cut _ _ hEc
      refine Ay (Aa (Au (Af (Ae rfl rfl (Ab (Aa (Aw (Bm 5846006549302344024882180676898671165659244662276 (α:=Nat) (fun i=>[(9,.int .i64 (i:Int))]) (fun i w'=>(i≤hh∧∀ b,b<i→Fs (hh:Int) rest b=true)∧Ctx w0 [] w' [(b1,Bl 33 (AJ r q))]) (fun i=>hh - i) 0 rfl ?_ ?_ ?_))))))))
      ·exact ⟨rfl,trivial⟩
      ·exact ⟨⟨Nat.zero_le _,fun b h=>absurd h (Nat.not_lt_zero _)⟩,H⟩
      ·clear H
       rintro i j9 w ⟨⟨hi,hbf⟩,H⟩
       refine Au (Af (Ad rfl rfl (Ad rfl rfl (AO rfl rfl rfl (Ab (Aa (Ax _ rfl ?_ ?_)))))))
       ·intro h5
        replace h5:=AE h5
        obtain ⟨x,hxe⟩:=AH (l:=rest) (i:=2*i) (by omega)
        obtain ⟨y,hye⟩:=AH (l:=rest) (i:=2*i+1) (by omega)
        have hat:Fs (hh:Int) rest i=(((decide (x.f=(hh:Int)) && decide (x.t=(i:Int))) && decide (x.cost=0)) && decide (y=⟨i,hh,4503599627370496,0⟩)):=by
         unfold Fs
         rw [Bi hxe,Bi hye]
         congr 1
         rw [Bool.eq_iff_iff,Bool.and_eq_true,Bool.and_eq_true,decide_eq_true_eq,decide_eq_true_eq,decide_eq_true_eq,decide_eq_true_eq]
         exact To
        have hidx:(2*(i:Int)).toNat=2*i:=by omega
        have hidx2:(2*(i:Int)+1).toNat=2*i+1:=by omega
        have hnoH:Fs (hh:Int) rest i=false→(List.range hh).all (Fs (hh:Int) rest)=false:=fun h=>by
         rw [← Bool.not_eq_true,List.all_eq_true]
         intro h9
         have:=h9 i (List.mem_range.2 (by omega))
         rw [h] at this; cases this
        refine Ay (Aa (Au (Aw (Af (An rfl rfl (Ad rfl rfl (Cg rfl rfl rfl (by omega) (by omega) ?_)))))))
        refine Ba RR rfl BT B7 rfl rfl (by omega) (by omega) (by omega) ?_
        rw [hidx]
        refine Ce _ rfl Ec B7 rfl rfl (((RR.ext0 H.ext).row hxe rfl)) ?_
        refine Bn rfl Dq H ?_
        rintro b10 w - H
        refine BG rfl B7 rfl rfl rfl (by exact CN _) H at0 rfl ?_
        rintro w H
        refine Ab (Aa (Af (An rfl rfl (Ad rfl rfl (Cg rfl rfl rfl (by omega) (by omega) ?_)))))
        refine Ao rfl rfl rfl (by omega) (by omega) ?_
        refine Ba RR rfl BT B7 rfl rfl (by omega) (by omega) (by omega) ?_
        rw [hidx2]
        refine Ce _ rfl Ec B7 rfl rfl (((RR.ext0 H.ext).row hye rfl)) ?_
        refine Bn rfl Dq H ?_
        rintro b11 w - H
        refine BG rfl B7 rfl rfl rfl (by exact CN _) H at0 rfl ?_
        rintro w H
        refine Ab (Aa ?_)
        replace H:Ctx w0 [] _ [(b11,Bl 92 (Bv y)),(b10,Bl 92 (Bv x)),(b1,Bl 33 (AJ r q))]:=H
        refine Af (BP (α:=Unit) 5846005155527036764650792984882740038101136048128 (fun _=>[(161,.bool (!Fs (hh:Int) rest i))]) (fun _ w'=>Ctx w0 [] w' [(b11,Bl 92 (Bv y)),(b10,Bl 92 (Bv x)),(b1,Bl 33 (AJ r q))]) rfl ?_ ?_)
        ·refine Ah rfl CT rfl (A9 rfl BC rfl H at1 rfl (Ad rfl rfl (D6 rfl rfl rfl (Al rfl rfl (AD 144 rfl ?_ ?_)))))
         ·intro h21
          replace h21:=Eg h21
          refine Ag rfl (Ag rfl (Ag rfl (Ag rfl (Av rfl rfl (.bool _) rfl (Al rfl rfl (Ag rfl (Ag rfl (Ag rfl (Av rfl rfl (.bool _) rfl ?_)))))))))
          refine Al rfl rfl (Ag rfl (Ag rfl (Ag rfl (Ag rfl (Ag rfl (Av rfl rfl (.bool _) rfl (Ab ?_)))))))
          exact ⟨rfl,(),rfl,⟨congrArg Value.bool (by rw [hat,Bool.eq_iff_iff]; simp_all; done),trivial⟩,H⟩
         ·intro h22
          replace h22:=Eh h22
          refine Ah rfl Di rfl (A9 rfl BC rfl H at1 rfl (Ad rfl rfl (D6 rfl rfl rfl (A7 rfl rfl (.bool _) rfl (Al rfl rfl (AD 150 rfl ?_ ?_))))))
          ·intro h23
           replace h23:=Eg h23
           refine Ag rfl (Ag rfl (Ag rfl (Av rfl rfl (.bool _) rfl (Al rfl rfl (Ag rfl (Ag rfl (Ag rfl (Ag rfl (Ag rfl ?_)))))))))
           refine Av rfl rfl (.bool _) rfl (Ab ?_)
           exact ⟨rfl,(),rfl,⟨congrArg Value.bool (by rw [hat,Bool.eq_iff_iff]; simp_all; done),trivial⟩,H⟩
          ·intro h24
           replace h24:=Eh h24
           refine Ah rfl Da rfl (A9 rfl B1 rfl H at1 rfl (D6 rfl rfl rfl (A7 rfl rfl (.bool _) rfl (Al rfl rfl (AD 155 rfl ?_ ?_)))))
           ·intro h25
            replace h25:=Eg h25
            refine Ag rfl (Ag rfl (Ag rfl (Ag rfl (Ag rfl (Av rfl rfl (.bool _) rfl (Ab ?_))))))
            exact ⟨rfl,(),rfl,⟨congrArg Value.bool (by rw [hat,Bool.eq_iff_iff]; simp_all; done),trivial⟩,H⟩
           ·intro h26
            replace h26:=Eh h26
            refine Bf rfl Ec B7 rfl H at0 rfl (Ad rfl rfl (Ad rfl rfl (C7 (Bv ⟨i,hh,4503599627370496,0⟩) rfl K9 Dq (by kernel_rfl) ?_)))
            refine Zr (ks:=[true,true,true,true]) (xs:=Bv y) (ys:=Bv ⟨i,hh,4503599627370496,0⟩) (decide (y=⟨i,hh,4503599627370496,0⟩)) rfl (by kernel_rfl) rfl rfl ⟨rfl,rfl,rfl,rfl,trivial⟩ (Mq _ _) ?_
            refine A7 rfl rfl (.bool _) rfl (Ab ?_)
            exact ⟨rfl,(),rfl,⟨congrArg Value.bool (by rw [hat,Bool.eq_iff_iff]; simp_all; done),trivial⟩,H⟩
        rintro - j161 w H
        refine Ax _ rfl ?_ ?_
        ·intro h6
         replace h6:=Bp h6
         refine Af (Ai rfl rfl (Ab (Aa (A5 (A3 (Ak (Ak (A3 (Ak (A8 (v:=(.bool _)) rfl rfl rfl ?_))))))))))
         exact ⟨congrArg Value.bool (hnoH h6).symm,H.ext⟩
        ·intro h6
         replace h6:=Bq h6
         refine Ay (A1 (Aa (Aq (Ad rfl rfl (Ao rfl rfl rfl (by omega) (by omega) ?_)))))
         refine Ae rfl rfl (Ab (Aa ?_))
         refine ⟨i+1,rfl,⟨rfl,trivial⟩,⟨⟨by omega,fun b hb=>?_⟩,H.tail.tail⟩,by omega⟩
         rcases Nat.lt_or_ge b i with h8 | h8
         ·exact hbf b h8
         ·obtain rfl:b=i:=by omega
          exact h6
       ·intro h5
        replace h5:=AF h5
        obtain rfl:i=hh:=by omega
        refine Bh (Aj (Aj (AG (Aa (Af (Ai rfl rfl (Ab (Aa (A5 (A8 (v:=(.bool _)) rfl rfl rfl ?_))))))))))
        exact ⟨congrArg Value.bool (List.all_eq_true.2 fun b hb=>hbf b (List.mem_range.1 hb)).symm,H.ext⟩
end Go.Proofs.YtapphbmlkdhnmaaGreat

/- What a right round says of a due, and of a bank. -/
namespace Go.Proofs.YtapphbmlkdhnmaaGreat
open Go.GV
attribute [local irreducible] A4 W Wq Wt

/-- What a right round says. -/
structure WR (r:Rnd):Prop where
 chk:DV r.N r.es r.fl r.pot=true
 day:0≤r.day
 d64:r.ids.length≤64
 nd:r.ids.Nodup
 N1:1≤r.N
 N17:r.N≤17
 de:r.ids.length≤r.es.length
 e200:r.es.length≤200
 len:r.fl.length=r.es.length
 pot:(r.pot.length:Int)=r.N
 wi:B3 r.N r.es r.fl=true
 due:∀ (i:Nat) (e:Ed),i<r.ids.length→r.es[i]? = some e→Dw (r.N - 1) e=true
 rest:GL r=true
theorem G5 {r:Rnd} (h:Bx r=true):WR r:=by
 unfold Bx at h
 rw [Bool.and_eq_true,Bool.and_eq_true,List.all_eq_true] at h
 obtain ⟨h1,h2,h3⟩:=h
 obtain ⟨g1,g2,g3,g4,g5,g6⟩:=Ms h1
 obtain ⟨k1,-,k3,k4,k5⟩:=IM g1
 exact ⟨g1,g2,g3,g4,k1,by omega,g6,k3,k4,k5,(E5 (Fq.1 g1).1).1,fun i e hi he=>h2 e (List.mem_of_getElem? (by rw [List.getElem?_take,if_pos hi]; exact he)),h3⟩
theorem Ln {h:Int} {e:Ed} (hw:Dw h e=true):e.f<h∧e.t<h∧e.f≠e.t∧1≤e.cap ∧ -1000≤e.cost∧e.cost ≤ -1:=by
 unfold Dw at hw
 simp only [Bool.and_eq_true,decide_eq_true_eq,Bool.not_eq_true',decide_eq_false_iff_not] at hw
 exact ⟨hw.1.1.1.1.1,hw.1.1.1.1.2,hw.1.1.1.2,hw.1.1.2,hw.1.2,hw.2⟩
/-- The first place of a number. -/
def Qu (ids:List Int) (x:Int):Option Nat:=ids.findIdx? fun y=>decide (y=x)
theorem Ut {ids:List Int} {x:Int} {i:Nat} (h:ids[i]? = some x) (hb:∀ (k:Nat) (y:Int),k<i→ids[k]? = some y→y≠x):Qu ids x=some i:=by
 obtain ⟨h1,h2⟩:=List.getElem?_eq_some_iff.1 h
 unfold Qu
 rw [List.findIdx?_eq_some_iff_getElem]
 exact ⟨h1,decide_eq_true h2,fun j hj=>by
  have:=hb j _ hj (List.getElem?_eq_getElem (by omega))
  simpa using this⟩
theorem Uu {ids:List Int} {x:Int} (hb:∀ (k:Nat) (y:Int),ids[k]? = some y→y≠x):Qu ids x=none:=by
 unfold Qu
 rw [List.findIdx?_eq_none_iff]
 intro y hy
 obtain ⟨k,hk⟩:=List.mem_iff_getElem?.1 hy
 exact decide_eq_false (hb k y hk)
def idxI (o:Option Nat):Int:=match o with | some i=>(i:Int) | none => -1
theorem WB (a:Option Addr) (n c:Nat) (ids:List Int) (x:Int) (w:World) (R:Rd w a 1 U1 ids) (hn:ids.length=n) (hn2:n≤1000000):Ret Tryz.prog 97 #[.slice a n c,.int .u64 x] w fun v w'=>v = .int .i64 (idxI (Qu ids x))∧Ext [] w w':=by
 subst hn
 obtain ⟨w0,rfl⟩:∃ w0,w0=w:=⟨_,rfl⟩
 have H:=Ctx.start w0 []
 refine A2 (fn:=Tryz.f97) Tryz.func97 rfl [.slice a ids.length c,.int .u64 x] rfl (by kernel_rfl) ?_
 refine Af (Ae rfl rfl (Ab (Aa (Au (Af (An rfl rfl (Bc rfl Bb rfl (Ad rfl rfl (Ab (Aa (Aw ?_)))))))))))
 refine Bm 524080 (α:=Nat) (fun i=>[(8,.int .i64 (i:Int))]) (fun i w'=>i≤ids.length∧Ctx w0 [] w' []∧∀ (k:Nat) (y:Int),k<i→ids[k]? = some y→y≠x) (fun i=>ids.length - i) 0 rfl ?_ ?_ ?_
 ·exact ⟨rfl,trivial⟩
 ·exact ⟨Nat.zero_le _,H,fun j e h=>absurd h (Nat.not_lt_zero _)⟩
 ·clear H
  rintro i j w ⟨hi,H,hb⟩
  refine Af (AO rfl rfl rfl (Ab (Aa (Au (Ax _ rfl ?_ ?_)))))
  ·intro h1
   replace h1:=AE h1
   obtain ⟨y,hy⟩:=AH (l:=ids) (i:=i) (by omega)
   have R1:=R.ext0 H.ext
   refine Ay (Aa (Au (Aw (Af (Ad rfl rfl (Ae rfl rfl (Ab (Aa (Af (Ad rfl rfl (An rfl rfl ?_)))))))))))
   refine Ad rfl rfl (Ba R1 rfl Bb AZ rfl rfl (by omega) (by omega) (by rfl) ?_)
   refine AX rfl BJ rfl ((R1.fld hy rfl (j:=0) rfl)) ?_
   refine BE rfl rfl rfl (Ab (Aa (Ax _ rfl ?_ ?_)))
   ·intro h2
    replace h2:=AE h2
    refine Af (Ad rfl rfl (Ae rfl rfl (Ab (Aa (A5 (A3 (Ak (Ak (A3 (Ak (A8 (v:=(.int _ _)) rfl rfl rfl ?_)))))))))))
    exact ⟨congrArg (Value.int .i64) (by rw [Ut (by rw [hy,h2]) hb]; rfl),H.ext⟩
   ·intro h2
    replace h2:=AF h2
    refine Ay (A1 (Aa (Aq (Ao rfl rfl rfl (by omega) (by omega) ?_))))
    refine Ad rfl rfl (Ab (Aa ?_))
    refine ⟨i+1,rfl,⟨rfl,trivial⟩,⟨by omega,H,fun k z hk hz=>?_⟩,by omega⟩
    rcases Nat.lt_or_ge k i with h3 | h3
    ·exact hb k z h3 hz
    ·obtain rfl:k=i:=by omega
     rw [hy] at hz; cases hz
     exact fun h=>h2 h.symm
  ·intro h1
   replace h1:=AF h1
   refine Bh (Aj (Aj (AG (Aa (Af (Ae rfl rfl (Ab (Aa (A5 (A8 (v:=(.int _ _)) rfl rfl rfl ?_))))))))))
   exact ⟨congrArg (Value.int .i64) (by rw [Uu fun k y hk=>hb k y (by have:=CA hk; omega) hk]; rfl),H.ext⟩
/-- What was paid of a due, of how much, and the code. -/
def KM (r:Rnd) (x:Int):Int × Int × Int:=if Bx r=true then (match Qu r.ids x with | some i=>(r.fl.getD i 0,(r.es.getD i e0).cap,0) | none=>(0,0,4)) else (0,0,1)
abbrev tri (p:Int × Int × Int):Value := .tuple #[.int .i64 p.1,.int .i64 p.2.1,.int .i64 p.2.2]
set_option maxRecDepth 20000 in
theorem Qv (r:Rnd) (q:RSl) (x:Int) (w:World) (RA:RAt w r q) (hEc:r.es.length≤q.cE) (hr:RBnd r):Ret Tryz.prog 39 #[.agg (AJ r q).toArray,.int .u64 x] w fun v w'=>v=tri (KM r x)∧Ext [] w w':=by
 obtain ⟨w0,rfl⟩:∃ w0,w0=w:=⟨_,rfl⟩
 have H:=Ctx.start w0 []
 have hfl:=hr.fl
 obtain ⟨wr,hwr⟩:∃ wr,wr=Bx r:=⟨_,rfl⟩
 refine A2 (fn:=Tryz.f39) Tryz.func39 rfl [.agg (AJ r q).toArray,.int .u64 x] rfl (by kernel_rfl) ?_
 refine Af (Bu rfl (AJ r q) (.agg _) rfl rfl H ?_)
 rintro b2 w - H
 refine Ae rfl rfl (Ae rfl rfl (Ae rfl rfl (Ab (Aa (Au (Af (Bf rfl CB Cw rfl H at0 rfl (Am rfl LQ (Ft r q _ (RA.ext0 H.ext) hEc hr) rfl ?_))))))))
 rintro v w ⟨rfl,hx9⟩
 replace H:=H.call hx9
 rw [← hwr]
 refine Bs rfl rfl (Ab (Aa (Ax _ rfl ?_ ?_)))
 ·intro h1
  replace h1:=Bp h1
  refine Af (Ae rfl rfl (Ae rfl rfl (Ae rfl rfl (Ab (Aa (A5 (Ak (DB (v1:=(.int _ _)) (v2:=(.int _ _)) (v3:=(.int _ _)) rfl rfl rfl rfl rfl ?_))))))))
  have h1':Bx r=false:=by rw [← hwr]; simpa using h1
  exact ⟨by unfold KM; rw [if_neg (by rw [h1']; decide)],H.ext⟩
 ·intro h1
  replace h1:=Bq h1
  have h1':Bx r=true:=by rw [← hwr]; simpa using h1
  have WW:=G5 h1'
  have hde:=WW.de
  have hle:=WW.len
  refine Ay (Aa (Af (Ah rfl Ew rfl (A9 rfl EH rfl H at0 rfl (Ad rfl rfl (Am rfl ca_97 (WB q.aI _ q.cI r.ids x _ (RA.I.ext0 H.ext) rfl hr.ids) rfl ?_))))))
  rintro v w ⟨rfl,hx14⟩
  replace H:=H.call hx14
  refine Ae rfl rfl (Ab (Aa (Au ?_)))
  have hP:KM r x=(match Qu r.ids x with | some i=>(r.fl.getD i 0,(r.es.getD i e0).cap,0) | none=>(0,0,4)):=by unfold KM; rw [if_pos h1']
  rw [hP]
  rcases hix:Qu r.ids x with _ | i
  ·skip
   refine Af (Ad rfl rfl (AO rfl rfl rfl (Ab (Aa (CL rfl (Af (Ae rfl rfl (Ae rfl rfl (Ae rfl rfl (Ab (Aa ?_)))))))))))
   refine A5 (Ak (DB (v1:=(.int _ _)) (v2:=(.int _ _)) (v3:=(.int _ _)) rfl rfl rfl rfl rfl ?_))
   exact ⟨rfl,H.ext⟩
  ·skip
   obtain ⟨hil,-⟩:=(List.findIdx?_eq_some_iff_getElem.1 hix)
   obtain ⟨e,he⟩:=AH (l:=r.es) (i:=i) (by omega)
   obtain ⟨y,hy⟩:=AH (l:=r.fl) (i:=i) (by omega)
   have RE:=RA.E
   have RF:=RA.F
   refine Af (Ad rfl rfl (AO rfl rfl rfl ?_))
   rw [show decide (idxI (some i)<0)=false from decide_eq_false (by show ¬ ((i:Int)<0); omega)]
   refine Ab (Aa (FR rfl (Ay (Aa (EF (fun x=>x=_) B5 (by kernel_rfl) rfl ?_)))))
   refine AA rfl Ex rfl (AA rfl EL rfl (Cf rfl BL rfl (by rintro _ rfl; exact H.drew) at0 rfl ?_))
   refine AN rfl rfl (Cs (i:=(i:Int)) RF rfl AU Bw rfl rfl (by omega) (by omega) (by rfl) ?_)
   refine Cd rfl B1 rfl (by rintro _ rfl; exact (((RF.ext0 H.drew.ext).fld hy rfl (j:=0) rfl))) ?_
   refine AA rfl CG rfl (AA rfl BO rfl (Cf rfl CF rfl (by rintro _ rfl; exact H.drew) at0 rfl ?_))
   refine AN rfl rfl (Cs (i:=(i:Int)) RE rfl BT B7 rfl rfl (by omega) (by omega) (by rfl) ?_)
   refine AA rfl CH rfl (Cd rfl B1 rfl (by rintro _ rfl; exact (((RE.ext0 H.drew.ext).fld he rfl (j:=2) rfl))) ?_)
   refine Cl rfl rfl (Cl rfl rfl (Cl rfl rfl (BZ ?_)))
   rintro _ rfl
   replace H:=H.drew
   refine A5 (DB (v1:=(.int _ _)) (v2:=(.int _ _)) (v3:=(.int _ _)) rfl rfl rfl rfl rfl ?_)
   exact ⟨by dsimp only; rw [Bi he,Bi hy],H.ext⟩
end Go.Proofs.YtapphbmlkdhnmaaGreat

/- What a right round says of a bank, and what it is worth. -/
namespace Go.Proofs.YtapphbmlkdhnmaaGreat
open Go.GV
attribute [local irreducible] A4 W Wq Wt

/-- A sum over the first dues. -/
def GM (r:Rnd) (f:Ed→Int→Int) (n:Nat):Int:=B2 (fun i=>f (r.es.getD i e0) (r.fl.getD i 0)) n
theorem NF {r:Rnd} {f:Ed→Int→Int} {i:Nat} {e:Ed} {x:Int} (he:r.es[i]? = some e) (hx:r.fl[i]? = some x):GM r f (i+1)=GM r f i+f e x:=by
 unfold GM
 show _+f (r.es.getD i e0) (r.fl.getD i 0)=_
 rw [Bi he,Bi hx]
def E7:Nat→List Nat
 | 3=>[2] | 4=>[2,3] | 6=>[2,3,4,5] | 7=>[2,3,4,5,6] | 9=>[8] | 10=>[8,9] | 12=>[8,9,10,11] | 13=>[8,9,10,11,12]
 | 14=>[1,2,3,4,5,6,7,8,9,10,11,12,13] | 15=>[0,1,2,3,4,5,6,7,8,9,10,11,12,13,14] | 16=>[0,1,2,3,4,5,6,7,8,9,10,11,12,13,14,15]
 | _=>[]
def Ab5 (fid:FuncId) (cl:List Value) (b2:Nat) (r:Rnd) (q:RSl) (i:Nat) (e:Ed) (x s y:Int):Nat→Value
 | 0 => .int .i64 s | 1 => .func (.func fid) #[] cl.toArray | 2 => .pointer (some ⟨b2,4,none⟩) | 3 => .pointer (some ⟨b2,5,none⟩) | 4 => .slice q.aE r.es.length q.cE
 | 5 => .int .i64 (i:Int) | 6 => .pointer (some ⟨(adr q.aE).block,(adr q.aE).off+i*4,none⟩) | 7 => .agg (Bv e).toArray | 8 => .pointer (some ⟨b2,6,none⟩) | 9 => .pointer (some ⟨b2,6,none⟩)
 | 10 => .slice q.aF r.fl.length q.cF | 11 => .int .i64 (i:Int) | 12 => .pointer (some ⟨(adr q.aF).block,(adr q.aF).off+i*1,none⟩) | 13 => .int .i64 x | 14 => .int .i64 y
 | _ => .int .i64 (s+y)
set_option maxRecDepth 20000 in
theorem Mu (r:Rnd) (q:RSl) (fid:FuncId) (cl:List Value) (f:Ed→Int→Int) (w:World) (RA:RAt w r q) (hr:RBnd r) (hde:r.ids.length≤r.es.length) (hle:r.fl.length=r.es.length) (hfc:A0 Tryz.prog fid=true)
  (hf:∀ (i:Nat) (e:Ed) (x:Int) (w':World),i<r.ids.length→r.es[i]? = some e→r.fl[i]? = some x→Ext [] w w'→Ret Tryz.prog fid (.agg (Bv e).toArray :: .int .i64 x::cl).toArray w' fun v w''=>v = .int .i64 (f e x)∧Ext [] w' w'')
  (hB:∀ k,k≤r.ids.length → -4611686018427387904≤GM r f k∧GM r f k≤4611686018427387904) :
  Ret Tryz.prog 100 #[.agg (AJ r q).toArray,.func (.func fid) #[] cl.toArray] w fun v w'=>v = .int .i64 (GM r f r.ids.length)∧Ext [] w w':=by
 obtain ⟨w0,rfl⟩:∃ w0,w0=w:=⟨_,rfl⟩
 have H:=Ctx.start w0 []
 have hfl:=hr.fl
 have hil:=hr.ids
 refine A2 (fn:=Tryz.f100) Tryz.func100 rfl [.agg (AJ r q).toArray,.func (.func fid) #[] cl.toArray] rfl (by kernel_rfl) ?_
 have RE:=RA.E
 have RF:=RA.F
 refine Af (Bu rfl (AJ r q) (.agg _) rfl rfl H ?_)
 rintro b2 w - H
 refine Ae rfl rfl (Ab (Aa (Au (Af (Ah rfl Ew rfl (A9 rfl EH rfl H at0 rfl (Bc rfl Bb rfl (Ad rfl rfl (Ab (Aa (Aw ?_)))))))))))
 refine Bm 536870448 (α:=Nat) (fun i=>[(9,.int .i64 (i:Int)),(4,.int .i64 (GM r f i))]) (fun i w'=>i≤r.ids.length∧Ctx w0 [] w' [(b2,Bl 33 (AJ r q))]) (fun i=>r.ids.length - i) 0 rfl ?_ ?_ ?_
 ·exact ⟨rfl,rfl,trivial⟩
 ·exact ⟨Nat.zero_le _,H⟩
 ·clear H
  rintro i j w ⟨hi,H⟩
  refine Af (AO rfl rfl rfl (Ab (Aa (Au (Ax _ rfl ?_ ?_)))))
  ·intro h1
   replace h1:=AE h1
   obtain ⟨e,he⟩:=AH (l:=r.es) (i:=i) (by omega)
   obtain ⟨x,hxx⟩:=AH (l:=r.fl) (i:=i) (by omega)
   have hst:=NF (f:=f) he hxx
   have hb1:=hB i (by omega)
   have hb2:=hB (i+1) (by omega)
   rw [hst] at hb2
   obtain ⟨s,hs⟩:∃ s,s=GM r f i:=⟨_,rfl⟩
   obtain ⟨y,hy⟩:∃ y,y=f e x:=⟨_,rfl⟩
   rw [← hs,← hy] at hb2 hst
   rw [← hs] at hb1 ⊢
   refine Ay (Aa (Au (Aw (Af (Ad rfl rfl (Ae rfl rfl (Ab (Aa (Ld 268431376 (α:=Unit) (fun _=>[(4,.int .i64 (s+y))]) (fun _ w'=>Ctx w0 [] w' [(b2,Bl 33 (AJ r q))]) rfl ?_ ?_)))))))))
   ·skip
    have hb2:=H.get at0
    refine XB (n:=16) (anc:=E7) (fun i=>12+i) (Ab5 fid cl b2 r q i e x s y) (show Tryz.prog.follows .mixedOrders=true by kernel_rfl) rfl (by kernel_rfl) ?_ (fun i j _ _ h=>by have h:12+i=12+j:=h; omega) ?_ ?_
    ·intro k hk
     have:k=0∨k=1∨k=2∨k=3∨k=4∨k=5∨k=6∨k=7∨k=8∨k=9∨k=10∨k=11∨k=12∨k=13∨k=14∨k=15:=by omega
     simp [E7]
     omega
    ·intro m o e' w' hm ho hold hsl hx
     have hin:∀ t:Nat,t<12→∀ j,j<16→t≠12+j:=fun t ht j hj=>by omega
     have g1:e'.g 1 = .func (.func fid) #[] cl.toArray:=(hold 1 (hin 1 (by omega))).trans rfl
     have g2:e'.g 2=ptr b2:=(hold 2 (hin 2 (by omega))).trans rfl
     have g4:e'.g 4 = .int .i64 s:=(hold 4 (hin 4 (by omega))).trans rfl
     have g5:e'.g 5 = .int .i64 (i:Int):=(hold 5 (hin 5 (by omega))).trans rfl
     have hx0:Ext [] w w':=(Ext.drew [] w).trans hx
     have hc:w'.heap[b2]? = some (Bl 33 (AJ r q)):=hx0.to hb2 (by simp)
     have hcs:m=0∨m=1∨m=2∨m=3∨m=4∨m=5∨m=6∨m=7∨m=8∨m=9∨m=10∨m=11∨m=12∨m=13∨m=14∨m=15:=by omega
     rcases hcs with rfl | rfl | rfl | rfl | rfl | rfl | rfl | rfl | rfl | rfl | rfl | rfl | rfl | rfl | rfl | rfl
     ·cases Option.some.inj ho
      exact BX rfl _ g4 (Ab ⟨.refl _ _,rfl⟩)
     ·cases Option.some.inj ho
      exact BX rfl _ g1 (Ab ⟨.refl _ _,rfl⟩)
     ·cases Option.some.inj ho
      exact Ah (off:=4) rfl (by kernel_rfl) g2 (Ab ⟨.refl _ _,rfl⟩)
     ·cases Option.some.inj ho
      exact Ah (off:=1) rfl (by kernel_rfl) (hsl 2 (by simp [E7])) (Ab ⟨.refl _ _,rfl⟩)
     ·cases Option.some.inj ho
      exact AX rfl CF (hsl 3 (by simp [E7])) (by rw [Ap hc]; rfl) (Ab ⟨.refl _ _,rfl⟩)
     ·cases Option.some.inj ho
      exact BX rfl _ g5 (Ab ⟨.refl _ _,rfl⟩)
     ·cases Option.some.inj ho
      exact Ba RE rfl BT B7 (hsl 4 (by simp [E7])) (hsl 5 (by simp [E7])) (by omega) (by omega) rfl (Ab ⟨.refl _ _,rfl⟩)
     ·cases Option.some.inj ho
      exact Ce (Bv e) rfl Ec B7 (hsl 6 (by simp [E7])) rfl ((RE.ext0 (H.ext.trans hx0)).row he rfl) (Ab ⟨.refl _ _,rfl⟩)
     ·cases Option.some.inj ho
      exact Ah (off:=6) rfl (by kernel_rfl) g2 (Ab ⟨.refl _ _,rfl⟩)
     ·cases Option.some.inj ho
      exact Ah (off:=0) rfl (by kernel_rfl) (hsl 8 (by simp [E7])) (Ab ⟨.refl _ _,rfl⟩)
     ·cases Option.some.inj ho
      exact AX rfl BL (hsl 9 (by simp [E7])) (by rw [Ap hc]; rfl) (Ab ⟨.refl _ _,rfl⟩)
     ·cases Option.some.inj ho
      exact BX rfl _ g5 (Ab ⟨.refl _ _,rfl⟩)
     ·cases Option.some.inj ho
      exact Ba RF rfl AU Bw (hsl 10 (by simp [E7])) (hsl 11 (by simp [E7])) (by omega) (by omega) rfl (Ab ⟨.refl _ _,rfl⟩)
     ·cases Option.some.inj ho
      exact AX rfl B1 (hsl 12 (by simp [E7])) ((RF.ext0 (H.ext.trans hx0)).fld hxx rfl (j:=0) rfl) (Ab ⟨.refl _ _,rfl⟩)
     ·cases Option.some.inj ho
      refine Co rfl (hsl 1 (by simp [E7])) hfc (hf i e x _ (by omega) he hxx (H.ext.trans hx0)) ?_ ?_
      ·show [e'.g 19,e'.g 25]++cl=_
       rw [show e'.g 19 = .agg (Bv e).toArray from hsl 7 (by simp [E7]),show e'.g 25 = .int .i64 x from hsl 13 (by simp [E7])]
       rfl
      ·rintro v w2 ⟨rfl,h2⟩
       rw [← hy]
       exact Ab ⟨h2,rfl⟩
     ·cases Option.some.inj ho
      exact Ao rfl (hsl 0 (by simp [E7])) (hsl 14 (by simp [E7])) (by omega) (by omega) (Ab ⟨.refl _ _,rfl⟩)
    ·intro o e' w' ho hds hold hsl hx
     cases Option.some.inj ho
     refine BU rfl _ (hsl 15 (by omega)) (Ab ?_)
     exact ⟨rfl,(),hds,⟨Dj _ _ _,trivial⟩,H.call ((Ext.drew [] w).trans hx)⟩
   ·rintro - j4 w H
    refine A1 (Aa (Aq (Ao rfl rfl rfl (by omega) (by omega) ?_)))
    refine Ad rfl rfl (Ab (Aa ?_))
    exact ⟨i+1,rfl,⟨rfl,congrArg (Value.int .i64) hst.symm,trivial⟩,⟨by omega,H⟩,by omega⟩
  ·intro h1
   replace h1:=AF h1
   obtain rfl:i=r.ids.length:=by omega
   refine Bh (Aj (Aj (AG (Aa (Af (Ad rfl rfl (Ae rfl rfl (Ab (Aa (A5 (A8 (v:=(.int _ _)) rfl rfl rfl ?_)))))))))))
   exact ⟨rfl,H.ext⟩
def toF (k:Int) (e:Ed) (x:Int):Int:=if e.t=k then x else 0
def frF (k:Int) (e:Ed) (x:Int):Int:=if e.f=k then x else 0
def woF (e:Ed) (x:Int):Int := -e.cost*x
theorem Tp (b:Bool) (x:Int) (w:World):Ret Tryz.prog 99 #[.bool b,.int .i64 x] w fun v w'=>v = .int .i64 (if b=true then x else 0)∧Ext [] w w':=by
 refine A2 (fn:=Tryz.f99) Tryz.func99 rfl [.bool b,.int .i64 x] rfl (by kernel_rfl) ?_
 refine Af (Ae rfl rfl (Ab (Aa (Au (Af (Al rfl rfl (Ab (Aa (Ax _ rfl ?_ ?_)))))))))
 ·intro h1
  refine Af (Ad rfl rfl (Ae rfl rfl (Ab (Aa (A5 (Ak (A8 (v:=(.int _ _)) rfl rfl rfl ?_)))))))
  exact ⟨by rw [if_pos h1],Ext.refl _ _⟩
 ·intro h1
  refine Ay (Aa (Af (Ae rfl rfl (Ab (Aa (A5 (A8 (v:=(.int _ _)) rfl rfl rfl ?_)))))))
  exact ⟨by rw [if_neg (by rw [h1]; decide)],Ext.refl _ _⟩
theorem WC (k:Int) (e:Ed) (x:Int) (b7 b3:Nat) (w:World) (h7:w.heap[b7]? = some (Bl 157 [.func (.func 99) #[] #[]])) (h3:w.heap[b3]? = some (Bl 3 [.int .i64 k])) :
  Ret Tryz.prog 101 #[.agg (Bv e).toArray,.int .i64 x,ptr b7,ptr b3] w fun v w'=>v = .int .i64 (toF k e x)∧Ext [] w w':=by
 obtain ⟨w0,rfl⟩:∃ w0,w0=w:=⟨_,rfl⟩
 have H:=Ctx.start w0 []
 refine A2 (fn:=Tryz.f101) Tryz.func101 rfl [.agg (Bv e).toArray,.int .i64 x,.pointer (some ⟨b7,0,none⟩),.pointer (some ⟨b3,0,none⟩)] rfl (by kernel_rfl) ?_
 refine Af (Bu rfl (Bv e) (.agg _) rfl rfl H ?_)
 rintro b4 w - H
 refine Ae rfl rfl (Ab (Aa (Af (AX rfl Vd rfl ((by rw [Ap (H.ext.to h7 (by simp))]; rfl)) ?_))))
 refine Ah rfl Di rfl (A9 rfl BC rfl H at0 rfl (AX rfl BC rfl ((by rw [Ap (H.ext.to h3 (by simp))]; rfl)) ?_))
 refine BE rfl rfl rfl (Ad rfl rfl (Co rfl rfl YQ (Tp (decide (e.t=k)) x _) rfl ?_))
 rintro v w ⟨rfl,hx13⟩
 replace H:=H.call hx13
 refine Ae rfl rfl (Ab (Aa (A5 (A8 (v:=(.int _ _)) rfl rfl rfl ?_))))
 exact ⟨congrArg (Value.int .i64) (by unfold toF; by_cases h:e.t=k <;> simp [h]),H.ext⟩
theorem WD (k:Int) (e:Ed) (x:Int) (b7 b3:Nat) (w:World) (h7:w.heap[b7]? = some (Bl 157 [.func (.func 99) #[] #[]])) (h3:w.heap[b3]? = some (Bl 3 [.int .i64 k])) :
  Ret Tryz.prog 102 #[.agg (Bv e).toArray,.int .i64 x,ptr b7,ptr b3] w fun v w'=>v = .int .i64 (frF k e x)∧Ext [] w w':=by
 obtain ⟨w0,rfl⟩:∃ w0,w0=w:=⟨_,rfl⟩
 have H:=Ctx.start w0 []
 refine A2 (fn:=Tryz.f102) Tryz.func102 rfl [.agg (Bv e).toArray,.int .i64 x,.pointer (some ⟨b7,0,none⟩),.pointer (some ⟨b3,0,none⟩)] rfl (by kernel_rfl) ?_
 refine Af (Bu rfl (Bv e) (.agg _) rfl rfl H ?_)
 rintro b4 w - H
 refine Ae rfl rfl (Ab (Aa (Af (AX rfl Vd rfl ((by rw [Ap (H.ext.to h7 (by simp))]; rfl)) ?_))))
 refine Ah rfl CT rfl (A9 rfl BC rfl H at0 rfl (AX rfl BC rfl ((by rw [Ap (H.ext.to h3 (by simp))]; rfl)) ?_))
 refine BE rfl rfl rfl (Ad rfl rfl (Co rfl rfl YQ (Tp (decide (e.f=k)) x _) rfl ?_))
 rintro v w ⟨rfl,hx13⟩
 replace H:=H.call hx13
 refine Ae rfl rfl (Ab (Aa (A5 (A8 (v:=(.int _ _)) rfl rfl rfl ?_))))
 exact ⟨congrArg (Value.int .i64) (by unfold frF; by_cases h:e.f=k <;> simp [h]),H.ext⟩
theorem Uv (e:Ed) (x:Int) (w:World) (h1 : -9223372036854775808≤e.cost*x∧e.cost*x≤9223372036854775807) (h2 : -1000≤e.cost∧e.cost≤1000) (h3 : -9223372036854775808≤woF e x∧woF e x≤9223372036854775807) :
  Ret Tryz.prog 103 #[.agg (Bv e).toArray,.int .i64 x] w fun v w'=>v = .int .i64 (woF e x)∧Ext [] w w':=by
 obtain ⟨w0,rfl⟩:∃ w0,w0=w:=⟨_,rfl⟩
 have H:=Ctx.start w0 []
 unfold woF at h3
 refine A2 (fn:=Tryz.f103) Tryz.func103 rfl [.agg (Bv e).toArray,.int .i64 x] rfl (by kernel_rfl) ?_
 refine Af (Bu rfl (Bv e) (.agg _) rfl rfl H ?_)
 rintro b2 w - H
 refine Ae rfl rfl (Ab (Aa (Af (Ah rfl Da rfl (A9 rfl B1 rfl H at0 rfl (EN rfl rfl (by omega) (by omega) ?_))))))
 refine Ad rfl rfl (Cg rfl rfl rfl (by omega) (by omega) ?_)
 refine Ae rfl rfl (Ab (Aa (A5 (A8 (v:=(.int _ _)) rfl rfl rfl ?_))))
 exact ⟨rfl,H.ext⟩
/-- Flows are small, and so are sums of them. -/
theorem Zb {r:Rnd} (W:WR r) {i:Nat} {x:Int} (hx:r.fl[i]? = some x):0≤x∧x≤4503599627370496:=by
 have hl:=CA hx
 obtain ⟨e,he⟩:=AH (l:=r.es) (i:=i) (by rw [← W.len]; exact hl)
 have h1:=(BA W.wi).2.2 i e x he hx
 have h2:=CM ((BM (BA W.wi).2.1).2.2.2.1 e (List.mem_of_getElem? he))
 omega
theorem Mv {r:Rnd} (W:WR r) {f:Ed→Int→Int} (hf:∀ e x,f e x=x∨f e x=0):∀ k,k≤r.ids.length→0≤GM r f k∧GM r f k≤4503599627370496*(k:Int)
 | 0,_=>by
  have:GM r f 0=0:=rfl
  rw [this]; omega
 | k+1,hk=>by
  have ih:=Mv W hf k (by omega)
  have h1:=W.de
  have h2:=W.len
  obtain ⟨e,he⟩:=AH (l:=r.es) (i:=k) (by omega)
  obtain ⟨x,hx⟩:=AH (l:=r.fl) (i:=k) (by omega)
  have h3:=Zb W hx
  rw [NF he hx]
  rcases hf e x with h | h <;> rw [h] <;> omega
theorem Ab6 (k:Int) (e:Ed) (x:Int):toF k e x=x∨toF k e x=0:=by
 unfold toF
 split
 ·exact .inl rfl
 ·exact .inr rfl
theorem Ab7 (k:Int) (e:Ed) (x:Int):frF k e x=x∨frF k e x=0:=by
 unfold frF
 split
 ·exact .inl rfl
 ·exact .inr rfl
theorem Tq (e:Ed) (x:Int):woF e x = -(x*e.cost):=by unfold woF; rw [Int.neg_mul,Int.mul_comm]
theorem Sf (r:Rnd) (k:Nat):GM r woF k = -B2 (fun i=>flE r.fl i*(grE r.N r.es).co i) k:=by
 unfold GM
 rw [← Li]
 exact Ct fun i _=>Tq _ _
def KN (r:Rnd) (k:Int):Int × Int × Int:=if Bx r=true then (if 0≤k∧k<r.N - 1 then (GM r (toF k) r.ids.length,GM r (frF k) r.ids.length,0) else (0,0,10)) else (0,0,1)
set_option maxRecDepth 20000 in
set_option maxHeartbeats 2000000 in
theorem Qw (r:Rnd) (q:RSl) (k:Int) (w:World) (RA:RAt w r q) (hEc:r.es.length≤q.cE) (hr:RBnd r):Ret Tryz.prog 42 #[.agg (AJ r q).toArray,.int .i64 k] w fun v w'=>v=tri (KN r k)∧Ext [] w w':=by
 obtain ⟨w0,rfl⟩:∃ w0,w0=w:=⟨_,rfl⟩
 have H:=Ctx.start w0 []
 obtain ⟨wr,hwr⟩:∃ wr,wr=Bx r:=⟨_,rfl⟩
 refine A2 (fn:=Tryz.f42) Tryz.func42 rfl [.agg (AJ r q).toArray,.int .i64 k] rfl (by kernel_rfl) ?_
 refine Af (Bu rfl (AJ r q) (.agg _) rfl rfl H ?_)
 rintro b2 w - H
 refine Bu rfl _ (.int _ _) rfl rfl H ?_
 rintro b3 w - H
 refine Ae rfl rfl (Ae rfl rfl (Ae rfl rfl (Ab (Aa (Au (Aw (Af (Bf rfl CB Cw rfl H at1 rfl (Am rfl LQ (Ft r q _ (RA.ext0 H.ext) hEc hr) rfl ?_)))))))))
 rintro v w ⟨rfl,hx10⟩
 replace H:=H.call hx10
 rw [← hwr]
 refine Bs rfl rfl (Ai rfl rfl (Ab (Aa (Ax _ rfl ?_ ?_))))
 ·intro h1
  replace h1:=Bp h1
  refine Af (Ae rfl rfl (Ae rfl rfl (Ae rfl rfl (Ab (Aa (A5 (A3 (Ak (DB (v1:=(.int _ _)) (v2:=(.int _ _)) (v3:=(.int _ _)) rfl rfl rfl rfl rfl ?_)))))))))
  have h1':Bx r=false:=by rw [← hwr]; simpa using h1
  exact ⟨by unfold KN; rw [if_neg (by rw [h1']; decide)],H.ext⟩
 ·intro h1
  replace h1:=Bq h1
  have h1':Bx r=true:=by rw [← hwr]; simpa using h1
  have WW:=G5 h1'
  have hN1:=WW.N1
  have hN17:=WW.N17
  have hP:KN r k=if 0≤k∧k<r.N - 1 then (GM r (toF k) r.ids.length,GM r (frF k) r.ids.length,0) else (0,0,10):=by unfold KN; rw [if_pos h1']
  rw [hP]
  refine Au (Af (A9 rfl BC rfl H at0 rfl (AO rfl rfl rfl (Ai rfl rfl (Ab (Aa (CS 12 rfl ?_ ?_)))))))
  ·intro h2
   replace h2:=AE h2
   refine Ay (Aa (CL rfl (Af (Ae rfl rfl (Ae rfl rfl (Ae rfl rfl (Ab (Aa (A5 (A3 (Ak (DB (v1:=(.int _ _)) (v2:=(.int _ _)) (v3:=(.int _ _)) rfl rfl rfl rfl rfl ?_))))))))))))
   exact ⟨by rw [if_neg (by omega)],H.ext⟩
  ·intro h2
   replace h2:=AF h2
   have HG:Ctx w0 [] w [(b3,Bl 3 [.int .i64 k]),(b2,Bl 33 (AJ r q))]:=H
   have hb2:=HG.get at1
   have hb3:=HG.get at0
   obtain ⟨w1,rfl⟩:∃ z,z=w:=⟨_,rfl⟩
   clear H
   have H:=Ctx.start w1 []
   refine Fc [([0,1],2),([3],4)] (fun z=>Ext [] w1 z) [] B5 (by kernel_rfl) (Ext.drew [] w1) ?_
   refine AR rfl rfl ?_
   refine Cb rfl BC rfl (fun _ hx=>(by rw [Ap (hx.to hb3 (by simp))]; rfl)) ?_
   refine F2 _ rfl CB Cw rfl rfl (fun _ hx=>(C1 (b:=b2) (t:=33) (l:=AJ r q) (hx.to hb2 (by simp)) 0 (AJ r q) rfl)) ?_
   refine B6 ?_
   replace H:=H.drew
   refine Am rfl HR (FM r q _ (by omega)) rfl ?_
   rintro v w ⟨rfl,hx17⟩
   replace H:=H.call hx17
   refine Ab (C4 (H.ext) (AR rfl rfl ?_))
   refine t_geq rfl rfl rfl (B6 (Ai rfl rfl (Ab (C4 (H.ext) (BW (Aa (CS 12 rfl ?_ ?_)))))))
   ·intro h3
    replace h3:=AE h3
    refine Af (Ae rfl rfl (Ae rfl rfl (Ae rfl rfl (Ab (Aa (A5 (A3 (Ak (DB (v1:=(.int _ _)) (v2:=(.int _ _)) (v3:=(.int _ _)) rfl rfl rfl rfl rfl ?_)))))))))
    exact ⟨by rw [if_neg (by omega)],HG.ext.trans H.ext⟩
   ·intro h3
    replace h3:=AF h3
    rw [if_pos (by omega)]
    replace H:=HG.call H.ext
    refine Ay (A1 (Aa (Af (Bn rfl Abh H ?_))))
    rintro b7 w - H
    refine BF (.func _ _ _) rfl Abb rfl rfl rfl H at0 (by decide) ?_
    rintro w H
    refine Ab (Aa (Af (Bf rfl CB Cw rfl H at2 rfl (Cy rfl [.pointer _,.pointer _] rfl (Am rfl QT (Mu r q 101 [ptr b7,ptr b3] (toF k) _ (RA.ext0 H.ext) hr WW.de WW.len Zv (fun i e x w' _ _ _ hx=>WC k e x b7 b3 w' (hx.to (H.get at0) (by simp)) (hx.to (H.get at1) (by simp))) (fun j hj=>by have:=Mv WW (Ab6 k) j hj; have:=WW.d64; omega)) rfl ?_)))))
    rintro v w ⟨rfl,hx21⟩
    replace H:=H.call hx21
    refine Ae rfl rfl (Ab (Aa (Af (Bf rfl CB Cw rfl H at2 rfl (Cy rfl [.pointer _,.pointer _] rfl (Am rfl QT (Mu r q 102 [ptr b7,ptr b3] (frF k) _ (RA.ext0 H.ext) hr WW.de WW.len Zw (fun i e x w' _ _ _ hx=>WD k e x b7 b3 w' (hx.to (H.get at0) (by simp)) (hx.to (H.get at1) (by simp))) (fun j hj=>by have:=Mv WW (Ab7 k) j hj; have:=WW.d64; omega)) rfl ?_))))))
    rintro v w ⟨rfl,hx24⟩
    replace H:=H.call hx24
    refine Ae rfl rfl (Ab (Aa (Af (Ad rfl rfl (Ad rfl rfl (Ae rfl rfl (Ae rfl rfl (Ae rfl rfl (Ab (Aa (A5 (DB (v1:=(.int _ _)) (v2:=(.int _ _)) (v3:=(.int _ _)) rfl rfl rfl rfl rfl ?_))))))))))))
    exact ⟨rfl,H.ext⟩
def HK (r:Rnd):Int × Int:=if Bx r=true then (GM r woF r.ids.length,0) else (0,1)
theorem WE {r:Rnd} (W:WR r) {k:Nat} (hk:k≤r.ids.length) : -4611686018427387904≤GM r woF k∧GM r woF k≤4611686018427387904:=by
 have:=Yx W.wi (k:=k) (by have:=W.de; omega)
 rw [Sf]
 omega
theorem WF {r:Rnd} (W:WR r) {i:Nat} {e:Ed} (hi:i<r.ids.length) (he:r.es[i]? = some e) : -1000≤e.cost∧e.cost≤1000:=by
 have:=Ln (W.due i e hi he)
 omega
set_option maxRecDepth 20000 in
theorem NG (r:Rnd) (q:RSl) (w:World) (RA:RAt w r q) (hEc:r.es.length≤q.cE) (hr:RBnd r):Ret Tryz.prog 44 #[.agg (AJ r q).toArray] w fun v w'=>v = .tuple #[.int .i64 (HK r).1,.int .i64 (HK r).2]∧Ext [] w w':=by
 obtain ⟨w0,rfl⟩:∃ w0,w0=w:=⟨_,rfl⟩
 have H:=Ctx.start w0 []
 obtain ⟨wr,hwr⟩:∃ wr,wr=Bx r:=⟨_,rfl⟩
 refine A2 (fn:=Tryz.f44) Tryz.func44 rfl [.agg (AJ r q).toArray] rfl (by kernel_rfl) ?_
 refine Af (Bu rfl (AJ r q) (.agg _) rfl rfl H ?_)
 rintro b1 w - H
 refine Ae rfl rfl (Ae rfl rfl (Ab (Aa (Au (Af (Bf rfl CB Cw rfl H at0 rfl (Am rfl LQ (Ft r q _ (RA.ext0 H.ext) hEc hr) rfl ?_)))))))
 rintro v w ⟨rfl,hx5⟩
 replace H:=H.call hx5
 rw [← hwr]
 refine Bs rfl rfl (Ab (Aa (Ax _ rfl ?_ ?_)))
 ·intro h1
  replace h1:=Bp h1
  refine Af (Ae rfl rfl (Ae rfl rfl (Ab (Aa (A5 (Ak (DI (v1:=(.int _ _)) (v2:=(.int _ _)) rfl rfl rfl rfl ?_)))))))
  have h1':Bx r=false:=by rw [← hwr]; simpa using h1
  exact ⟨by unfold HK; rw [if_neg (by rw [h1']; decide)],H.ext⟩
 ·intro h1
  replace h1:=Bq h1
  have h1':Bx r=true:=by rw [← hwr]; simpa using h1
  have WW:=G5 h1'
  have hP:HK r=(GM r woF r.ids.length,0):=by unfold HK; rw [if_pos h1']
  rw [hP]
  refine Ay (Aa (Af (Bf rfl CB Cw rfl H at0 rfl (Am rfl QT (Mu r q 103 [] woF _ (RA.ext0 H.ext) hr WW.de WW.len Zx (fun i e x w' hi he hxx _=>Uv e x w' (by have:=Tm WW.wi he hxx; omega) (WF WW hi he) (by rw [Tq,Int.mul_comm]; have:=Tm WW.wi he hxx; omega)) (fun j hj=>WE WW hj)) rfl ?_))))
  rintro v w ⟨rfl,hx8⟩
  replace H:=H.call hx8
  refine Ae rfl rfl (Ae rfl rfl (Ab (Aa (A5 (DI (v1:=(.int _ _)) (v2:=(.int _ _)) rfl rfl rfl rfl ?_)))))
  exact ⟨rfl,H.ext⟩
end Go.Proofs.YtapphbmlkdhnmaaGreat

/- The plain law of the sum of 32 bits: what is turned within 32 bits in a row is seen. -/
namespace Go.Proofs.YtapphbmlkdhnmaaGreat

def Mw:BitVec 32:=0xedb88320#32
def Iy (w:BitVec 32):BitVec 32:=(w >>> 1) ^^^ (if w.getLsbD 0 then Mw else 0#32)
def Y1 (x:BitVec 32):BitVec 32:=if x.getLsbD 31 then ((x ^^^ Mw) <<< 1) ||| 1#32 else x <<< 1
def CV:Nat→BitVec 32→BitVec 32
 | 0,w=>w
 | n+1,w=>CV n (Iy w)
def Qx:Nat→BitVec 32→BitVec 32
 | 0,w=>w
 | n+1,w=>Y1 (Qx n w)
def EE (c:UInt8):BitVec 32:=BitVec.ofNat 32 c.toNat
def KO (w:BitVec 32) (c:UInt8):BitVec 32:=CV 8 (w ^^^ EE c)
def Zc (s:BitVec 32) (l:List UInt8):BitVec 32 := ~~~ (l.foldl KO (~~~ s))
def sumW (l:List UInt8):BitVec 32:=Zc 0#32 l

theorem WG (a b:BitVec 32):Iy (a ^^^ b)=Iy a ^^^ Iy b:=by
 unfold Iy
 rw [BitVec.getLsbD_xor,BitVec.ushiftRight_xor_distrib]
 cases a.getLsbD 0 <;> cases b.getLsbD 0 <;> simp only [Bool.xor_false,Bool.xor_true,Bool.not_true,Bool.not_false,if_true,Bool.false_eq_true,if_false,BitVec.xor_zero]
 ·ac_rfl
 ·ac_rfl
 ·rw [show a >>> 1 ^^^ Mw ^^^ (b >>> 1 ^^^ Mw)=a >>> 1 ^^^ b >>> 1 ^^^ (Mw ^^^ Mw) by ac_rfl,BitVec.xor_self,BitVec.xor_zero]
theorem Ko:∀ (n:Nat) (a b:BitVec 32),CV n (a ^^^ b)=CV n a ^^^ CV n b
 | 0,_,_=>rfl
 | n+1,a,b=>by simp only [CV]; rw [WG,Ko n]
theorem FX:∀ (m n:Nat) (w:BitVec 32),CV n (CV m w)=CV (m+n) w
 | 0,n,w=>by simp [CV]
 | m+1,n,w=>by rw [Nat.succ_add]; simp only [CV]; exact FX m n _
def xorL:List UInt8→List UInt8→List UInt8
 | a::l,b::m=>(a ^^^ b)::xorL l m
 | _,_=>[]
theorem NH:∀ (n:Nat) (w:BitVec 32),(∀ i,i<n→w.getLsbD i=false)→CV n w=w >>> n
 | 0,w,_=>by simp [CV]
 | n+1,w,h=>by
  have h0:Iy w=w >>> 1:=by
   unfold Iy; rw [h 0 (by omega)]; simp
  simp only [CV]
  rw [h0,NH n (w >>> 1) (fun i hi=>by rw [BitVec.getLsbD_ushiftRight]; exact h _ (by omega)),← BitVec.shiftRight_add,Nat.add_comm 1 n]
theorem OM (c:UInt8) (n:Nat) (hn:n≤24):CV n (EE c <<< n)=EE c:=by
 rw [NH n _ (fun i hi=>by simp [BitVec.getLsbD_shiftLeft,hi])]
 have hc:c.toNat<256:=c.toNat_lt
 apply BitVec.eq_of_toNat_eq
 unfold EE
 rw [BitVec.toNat_ushiftRight,BitVec.toNat_shiftLeft,BitVec.toNat_ofNat,Nat.mod_eq_of_lt (by omega:c.toNat<2 ^ 32),Nat.shiftLeft_eq]
 have h1:c.toNat*2 ^ n<2 ^ 32:=by
  have h2:2 ^ n≤2 ^ 24:=Nat.pow_le_pow_right (by omega) hn
  calc c.toNat*2 ^ n≤255*2 ^ 24:=Nat.mul_le_mul (by omega) h2
   _<2 ^ 32:=by decide
 rw [Nat.mod_eq_of_lt h1,Nat.shiftRight_eq_div_pow,Nat.mul_div_cancel _ (Nat.two_pow_pos n)]

/-- A word's four bytes. -/
def Zd (a b c d:UInt8):BitVec 32:=EE a ^^^ (EE b <<< 8) ^^^ (EE c <<< 16) ^^^ (EE d <<< 24)
theorem four (w:BitVec 32) (a b c d:UInt8):[a,b,c,d].foldl KO w=CV 32 (w ^^^ Zd a b c d):=by
 have ha:CV 32 (EE a)=CV 32 (EE a):=rfl
 have hb:CV 24 (EE b)=CV 32 (EE b <<< 8):=by
  rw [← FX 8 24,OM b 8 (by omega)]
 have hc:CV 16 (EE c)=CV 32 (EE c <<< 16):=by
  rw [← FX 16 16,OM c 16 (by omega)]
 have hd:CV 8 (EE d)=CV 32 (EE d <<< 24):=by
  rw [← FX 24 8,OM d 24 (by omega)]
 simp only [List.foldl_cons,List.foldl_nil,KO,Ko,FX]
 rw [hb,hc,hd,show 8+(8+(8+8))=32 from rfl]
 simp only [Zd,Ko]
 ac_rfl
def burstB (o v:Nat):Bool:=(Qx 32 (BitVec.ofNat 32 v)).toNat % 2 ^ o == 0
end Go.Proofs.YtapphbmlkdhnmaaGreat

/- The sums of crc and of its reference. -/
namespace Go.Proofs.YtapphbmlkdhnmaaGreat
open Go.GV
attribute [local irreducible] A4 W Wq



theorem G6 (b:UInt8):b.toNat<256:=b.toNat_lt
theorem JN (w:BitVec 32):w.toNat<4294967296:=w.isLt
theorem Ze (s:BitVec 32):4294967295 ^^^ s.toNat=(~~~s).toNat:=by
 rw [← BitVec.allOnes_xor,BitVec.toNat_xor,BitVec.toNat_allOnes]
theorem WH (c:UInt8):(EE c).toNat=c.toNat:=by
 have:=G6 c
 unfold EE
 rw [BitVec.toNat_ofNat,Nat.mod_eq_of_lt (by omega)]
theorem xor_b (w:BitVec 32) (c:UInt8):w.toNat ^^^ c.toNat=(w ^^^ EE c).toNat:=by
 rw [BitVec.toNat_xor,WH]
theorem Y2 (w:BitVec 32):w.getLsbD 0=decide (w.toNat % 2=1):=by
 rw [BitVec.getLsbD,Nat.testBit_zero]
theorem WI (w:BitVec 32):(w.toNat / 2) ^^^ (if w.toNat % 2=1 then 3988292384 else 0)=(Iy w).toNat:=by
 unfold Iy
 rw [BitVec.toNat_xor,BitVec.toNat_ushiftRight,Nat.shiftRight_eq_div_pow,Y2]
 by_cases h:w.toNat % 2=1
 ·simp [h,Mw]
 ·simp [h]
theorem Uw (w:BitVec 32):(w.toNat / 2 ^ 1) ^^^ ((3988292384*(w.toNat &&& 1)) % 4294967296)=(Iy w).toNat:=by
 rw [← WI,Nat.and_one_is_mod]
 by_cases h:w.toNat % 2=1
 ·simp [h]
 ·have h0:w.toNat % 2=0:=by omega
  simp [h0]
theorem Sg (n:Nat) (w:BitVec 32):Iy (CV n w)=CV (n+1) w:=by
 rw [← FX n 1]; rfl

theorem Y3 (s:BitVec 32) (a:Option Addr) (c:Nat) (l:List UInt8) (w:World) (R:Rd w a 1 B8 l) (hm:l.length≤9223372036854775807) :
  Ret Tryz.prog 149 #[.int .u32 (s.toNat:Int),.slice a l.length c] w fun v w'=>v = .int .u32 ((Zc s l).toNat:Int)∧w=w':=by
 have hs:=JN s
 refine A2 (fn:=Tryz.f149) Tryz.func149 rfl [.int .u32 (s.toNat:Int),.slice a l.length c] rfl (by kernel_rfl) ?_
 refine Af (Ae rfl rfl (Ab (Aa (Af (Ad rfl rfl (LC rfl rfl (by omega) ?_))))))
 rw [Ze]
 refine Ae rfl rfl (Ab (Aa (Au (Af (An rfl rfl (Bc rfl Dt rfl (Ad rfl rfl (Ab (Aa (Aw (Bm 1073737888 (α:=Nat) (fun k=>[(12,.int .i64 k),(5,.int .u32 (((l.take k).foldl KO (~~~s)).toNat:Int))]) (fun k w'=>k≤l.length∧w=w') (fun k=>l.length - k) 0 rfl ?_ ?_ ?_)))))))))))
 ·exact ⟨rfl,rfl,trivial⟩
 ·exact ⟨Nat.zero_le _,rfl⟩
 ·rintro k j _ ⟨hk,rfl⟩
  refine Af (AO rfl rfl rfl (Ab (Aa (Au (Ax _ rfl ?_ ?_)))))
  ·intro h1
   replace h1:=AE h1
   obtain ⟨x,hx⟩:=AH (l:=l) (i:=k) (by omega)
   have hxb:=G6 x
   have hw:=JN ((l.take k).foldl KO (~~~s))
   generalize hv:(l.take k).foldl KO (~~~s)=v at hw
   refine Ay (Aa (Au (Aw (Af (Ba R rfl Dt Ij rfl rfl (by omega) (by omega) (by rfl) ?_)))))
   refine AX rfl ag_5 rfl (R.one (f:=bv) hx) ?_
   refine Ae rfl rfl (Ab (Aa (Af (Ad rfl rfl (Ad rfl rfl (K4 rfl rfl Jn V7 (by omega) (by omega) ?_))))))
   refine LA rfl rfl rfl (by omega) (by omega) ?_
   rw [xor_b]
   refine Ae rfl rfl (Ab (Aa (Af (Ad rfl rfl (Ab (Aa (Aw (Bm 535822368 (α:=Nat) (fun i=>[(20,.int .i64 i),(5,.int .u32 ((CV i (v ^^^ EE x)).toNat:Int))]) (fun i w'=>i≤8∧w=w') (fun i=>8 - i) 0 rfl ?_ ?_ ?_))))))))
   ·exact ⟨rfl,rfl,trivial⟩
   ·exact ⟨Nat.zero_le _,rfl⟩
   ·rintro i j _ ⟨hi,rfl⟩
    have hu:=JN (CV i (v ^^^ EE x))
    generalize hz:CV i (v ^^^ EE x)=z at hu
    refine Af (AO rfl rfl rfl (Ab (Aa (Au (Ax _ rfl ?_ ?_)))))
    ·intro h2
     replace h2:=AE h2
     refine Ay (Aa (Au (Aw (Aq (Ad rfl rfl (LB (n:=1) rfl rfl rfl (by omega) ?_))))))
     refine Ad rfl rfl (QI (b:=1) rfl rfl rfl (by omega) (by omega) ?_)
     refine Po (a:=3988292384) rfl rfl rfl ?_
     refine LA rfl rfl rfl (by omega) (by omega) ?_
     rw [Uw]
     refine Ae rfl rfl (Ab (A1 (Aa (Aq (Ao rfl rfl rfl (by omega) (by omega) ?_)))))
     refine Ad rfl rfl (Ab (Aa ?_))
     exact ⟨i+1,rfl,⟨rfl,by rw [← Sg,hz]; rfl,trivial⟩,⟨by omega,rfl⟩,by omega⟩
    ·intro h2
     replace h2:=AF h2
     have hi8:i=8:=by omega
     subst hi8
     refine Bh (Aj (Aj (AG (A1 (Aa (Aq (Ao rfl rfl rfl (by omega) (by omega) ?_)))))))
     refine Ad rfl rfl (Ab (Aa ?_))
     refine ⟨k+1,rfl,⟨rfl,?_,trivial⟩,⟨by omega,rfl⟩,by omega⟩
     rw [Dm hx,List.foldl_append,hv,List.foldl_cons,List.foldl_nil,KO,hz]; rfl
  ·intro h1
   replace h1:=AF h1
   have hke:k=l.length:=by omega
   subst hke
   rw [List.take_length]
   have hw:=JN (l.foldl KO (~~~s))
   refine Bh (Aj (Aj (AG (Aa (Af (Ad rfl rfl (LC rfl rfl (by omega) ?_)))))))
   rw [Ze]
   refine Ae rfl rfl (Ab (Aa (A5 (A8 (v:=(.int _ _)) rfl rfl rfl ?_))))
   exact ⟨rfl,rfl⟩

theorem WJ (a:Option Addr) (c n:Nat) (l:List UInt8) (w:World) (R:Rd w a 1 B8 l) (hn:l.length=n) (hm:n≤9223372036854775807) :
  Ret Tryz.prog 88 #[.slice a n c] w fun v w'=>v = .int .u32 ((sumW l).toNat:Int)∧w=w':=by
 subst hn
 refine A2 (fn:=Tryz.f88) Tryz.func88 rfl [.slice a l.length c] rfl (by kernel_rfl) ?_
 refine Af (Ae rfl rfl (Ab (Aa (Af (An rfl rfl (Am rfl ZK (Y3 0#32 a c l w R hm) rfl ?_))))))
 rintro v w ⟨rfl,rfl⟩
 refine Ae rfl rfl (Ab (Aa (A5 (A8 (v:=(.int _ _)) rfl rfl rfl ?_))))
 exact ⟨rfl,rfl⟩

/-- The number that bytes are, the least first. -/
def Gu:List UInt8→Nat
 | []=>0
 | c::l=>c.toNat+256*Gu l
theorem Qy:∀ (l m:List UInt8),Gu (l++m)=Gu l+256 ^ l.length*Gu m
 | [],m=>by simp [Gu]
 | c::l,m=>by
  have h:=Qy l m
  simp only [List.cons_append,Gu,List.length_cons,h,Nat.pow_succ]
  rw [Nat.mul_add,← Nat.mul_assoc,Nat.mul_comm (256 ^ l.length) 256]; omega
theorem ON:∀ l:List UInt8,Gu l<256 ^ l.length
 | []=>by simp [Gu]
 | c::l=>by
  have h:=ON l
  have hc:=G6 c
  simp only [Gu,List.length_cons,Nat.pow_succ]; omega
theorem Ux {l:List UInt8} {k:Nat} {c:UInt8} (hk:l[k]? = some c) (h4:k<4):Gu (l.take k) ||| (c.toNat*2 ^ (8*k) % 4294967296)=Gu (l.take (k+1)):=by
 have hl:=CA hk
 have hlen:(l.take k).length=k:=by rw [List.length_take]; omega
 have h1:=ON (l.take k)
 rw [hlen] at h1
 have h2:(256:Nat) ^ k=2 ^ (8*k):=by rw [Nat.pow_mul]
 have hc:=G6 c
 have h3:c.toNat*2 ^ (8*k)<4294967296:=by
  have:k=0∨k=1∨k=2∨k=3:=by omega
  rcases this with h | h | h | h <;> subst h <;> omega
 rw [Dm hk,Qy,hlen,Nat.mod_eq_of_lt h3,Nat.or_comm,Nat.mul_comm c.toNat,← Nat.two_pow_add_eq_or_of_lt (by rw [← h2]; exact h1),h2]
 simp only [Gu,Nat.mul_zero,Nat.add_zero]; omega

def Ju (b:List UInt8):Bool:=decide (4≤b.length) && decide ((sumW (b.take (b.length - 4))).toNat=Gu (b.drop (b.length - 4)))

theorem Qz (a:Option Addr) (c:Nat) (l:List UInt8) (w:World) (R:Rd w a 1 B8 l) (hm:l.length≤9223372036854775807) (hc:l.length≤c) :
  Ret Tryz.prog 78 #[.slice a l.length c] w fun v w'=>v = .bool (Ju l)∧w=w':=by
 refine A2 (fn:=Tryz.f78) Tryz.func78 rfl [.slice a l.length c] rfl (by kernel_rfl) ?_
 refine Af (Ai rfl rfl (Ab (Aa (Af (An rfl rfl (Bc rfl Dt rfl (Bd rfl rfl rfl (by omega) (by omega) ?_)))))))
 refine Ae rfl rfl (Ab (Aa (Au (Af (Ad rfl rfl (AO rfl rfl rfl (Ab (Aa (Ax _ rfl ?_ ?_)))))))))
 ·intro h1
  replace h1:=AE h1
  refine Af (Ai rfl rfl (Ab (Aa (A5 (Ak (A8 (v:=(.bool _)) rfl rfl rfl ?_))))))
  exact ⟨congrArg Value.bool (by rw [Ju,decide_eq_false (by omega)]; rfl),rfl⟩
 ·intro h1
  replace h1:=AF h1
  obtain ⟨m,hm4⟩:∃ m,l.length=m+4:=⟨l.length - 4,by omega⟩
  rw [show (l.length:Int) - 4=(m:Int) by omega]
  have R':=R.cut m c hc
  have hd:(l.drop m).length=4:=by rw [List.length_drop]; omega
  refine Ay (Aa (Af (Ae rfl rfl (Ab (Aa (Au (Af (An rfl rfl (Ad rfl rfl (EU rfl Dt Ij rfl rfl (by omega) (by omega) ?_))))))))))
  refine Bc rfl Dt rfl (Ad rfl rfl (Ab (Aa (Aw ?_))))
  rw [show l.length - ((m:Int)).toNat=4 by omega]
  refine Bm 536805488 (α:=Nat) (fun k=>[(16,.int .i64 k),(4,.int .u32 (Gu ((l.drop m).take k):Int))]) (fun k w'=>k≤4∧w=w') (fun k=>4 - k) 0 rfl ?_ ?_ ?_
  ·exact ⟨rfl,rfl,trivial⟩
  ·exact ⟨Nat.zero_le _,rfl⟩
  ·rintro k j _ ⟨hk,rfl⟩
   refine Af (AO rfl rfl rfl (Ab (Aa (Au (Ax _ rfl ?_ ?_)))))
   ·intro h2
    replace h2:=AE h2
    obtain ⟨x,hx⟩:=AH (l:=l.drop m) (i:=k) (by omega)
    have hxb:=G6 x
    have hw:Gu ((l.drop m).take k)<4294967296:=by
     have h:=ON ((l.drop m).take k)
     have h2:256 ^ ((l.drop m).take k).length≤256 ^ 4:=Nat.pow_le_pow_right (by omega) (by rw [List.length_take]; omega)
     have h3:(256:Nat) ^ 4=4294967296:=by decide
     omega
    refine Ay (Aa (Au (Aw (Af (Ad rfl rfl (Ba R' rfl Dt Ij rfl rfl (by omega) (by omega) (by omega) ?_))))))
    refine AX rfl ag_5 rfl (R'.one (f:=bv) hx) ?_
    refine Ae rfl rfl (Ae rfl rfl (Ab (Aa (Aq (Ad rfl rfl (Ad rfl rfl (K4 rfl rfl Jn V7 (by omega) (by omega) ?_)))))))
    refine Ad rfl rfl (Cg rfl rfl rfl (by omega) (by omega) ?_)
    rw [show (8:Int)*(k:Int)=((8*k:Nat):Int) from by simp]
    refine QJ rfl rfl rfl (by omega) ?_
    refine T3 rfl rfl rfl (by omega) (by omega) ?_
    rw [Ux hx (by omega)]
    refine Ae rfl rfl (Ab (A1 (Aa (Aq (Ao rfl rfl rfl (by omega) (by omega) ?_)))))
    refine Ad rfl rfl (Ab (Aa ?_))
    exact ⟨k+1,rfl,⟨rfl,rfl,trivial⟩,⟨by omega,rfl⟩,by omega⟩
   ·intro h2
    replace h2:=AF h2
    have hk4:k=4:=by omega
    subst hk4
    rw [show (l.drop m).take 4=l.drop m from List.take_of_length_le (by omega)]
    refine Bh (Aj (Aj (AG (Aa (Af (An rfl rfl (Ad rfl rfl (F1 rfl Dt Ij rfl rfl (by omega) (by omega) ?_))))))))
    refine Am rfl YP (WJ a c m (l.take m) w (R.take m) (by rw [List.length_take]; omega) (by omega)) rfl ?_
    rintro v w ⟨rfl,rfl⟩
    refine Ad rfl rfl (BE rfl rfl rfl (Ai rfl rfl (Ab (Aa (A5 (A8 (v:=(.bool _)) rfl rfl rfl ?_))))))
    refine ⟨congrArg Value.bool ?_,rfl⟩
    rw [Ju,decide_eq_true (show 4≤l.length by omega),Bool.true_and,show l.length - 4=m by omega]
    exact decide_eq_decide.2 (by omega)

/-! ### The reference -/
end Go.Proofs.YtapphbmlkdhnmaaGreat
