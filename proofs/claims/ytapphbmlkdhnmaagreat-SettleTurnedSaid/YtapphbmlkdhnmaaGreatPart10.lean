/- Part 10 of the proof. -/
import Derived.Test.YtapphbmlkdhnmaaGreatPart2
import Derived.Test.YtapphbmlkdhnmaaGreatPart9
import Derived.Test.YtapphbmlkdhnmaaGreatPart3
import Derived.Test.YtapphbmlkdhnmaaGreatPart5
/- The dues of the reference: place. -/
namespace Go.Proofs.YtapphbmlkdhnmaaGreat
open Go.GV
attribute [local irreducible] AL W Wq Wt

/-- Where a due stands. -/
structure PlD (ds:List Du) (k:Int) (i:Nat) (d:Du):Prop where
 at':ds[i]? = some d
 id:d.id=k
 fst:∀ (j:Nat) (e:Du),j<i→ds[j]? = some e→e.id≠k
theorem PlD.find {ds:List Du} {k:Int} {i:Nat} {d:Du} (h:PlD ds k i d):DC ds k=some d:=by
 induction ds generalizing i with
 | nil=>have:=h.at'; cases this
 | cons y ds ih =>
  unfold DC
  rw [List.find?_cons]
  cases i with
  | zero =>
   have h1:=h.at'
   injection h1 with h1
   rw [h1,show (d.id == k)=true by simpa using h.id]
  | succ i =>
   have h1:=h.fst 0 y (Nat.succ_pos _) rfl
   rw [show (y.id == k)=false by simpa using h1]
   exact ih ⟨h.at',h.id,fun j e hj he=>h.fst (j+1) e (Nat.succ_lt_succ hj) he⟩
theorem PlD.pay {ds:List Du} {k x:Int} {i:Nat} {d:Du} (h:PlD ds k i d):FT ds k x=if d.am=x then ds.eraseIdx i else ds.set i { d with am:=d.am - x }:=by
 induction ds generalizing i with
 | nil=>have:=h.at'; cases this
 | cons y ds ih =>
  unfold FT
  cases i with
  | zero =>
   have h1:=h.at'
   injection h1 with h1
   rw [h1,if_pos h.id]; rfl
  | succ i =>
   have h1:=h.fst 0 y (Nat.succ_pos _) rfl
   rw [if_neg h1,ih ⟨h.at',h.id,fun j e hj he=>h.fst (j+1) e (Nat.succ_lt_succ hj) he⟩]
   split <;> rfl
theorem UM {ds:List Du} {k:Int} (h:∀ (j:Nat) (e:Du),j<ds.length→ds[j]? = some e→e.id≠k):DC ds k=none:=by
 unfold DC
 rw [List.find?_eq_none]
 intro e he
 obtain ⟨j,hj⟩:=List.mem_iff_getElem?.1 he
 simpa using h j e (Cr hj) hj
set_option maxRecDepth 20000 in
theorem Xb {bd:Nat} (a:Option Addr) (n c:Nat) (ds:List Du) (nx k:Int) (w:World) (hd:w.heap[bd]? = some (Bl 48 [.slice a n c,.int .u64 nx])) (R:Rd w a 7 Cf ds) (hn:ds.length=n) (hn2:n≤1000000) :
  Ret Tryz.prog 141 #[ptr bd,.int .u64 k] w fun v w'=>w=w'∧((v = .int .i64 (-1)∧DC ds k=none)∨∃ (i:Nat) (d:Du),v = .int .i64 (i:Int)∧PlD ds k i d):=by
 subst hn
 obtain ⟨w0,rfl⟩:∃ w0,w0=w:=⟨_,rfl⟩
 refine A9 (fn:=Tryz.f141) Tryz.func141 rfl [.pointer (some ⟨bd,0,none⟩),.int .u64 k] rfl (by kernel_rfl) ?_
 refine Af (Ae rfl rfl (Ab (Aa (An (Af (Ae rfl rfl (Ab (Aa (Au (Bf 67108848 (α:=Nat) (fun i=>[(5,.int .i64 (i:Int))]) (fun i w'=>i≤ds.length∧w0=w'∧∀ (j:Nat) (e:Du),j<i→ds[j]? = some e→e.id≠k) (fun i=>ds.length - i) 0 rfl ?_ ?_ ?_))))))))))
 ·exact ⟨rfl,trivial⟩
 ·exact ⟨Nat.zero_le _,rfl,fun j e h=>absurd h (Nat.not_lt_zero _)⟩
 ·rintro i j w ⟨hi,rfl,hb⟩
  refine An (Af (Ad rfl rfl (A2 rfl rfl (AJ rfl rfl (Ah rfl Ec rfl (Bb rfl Gw rfl ((by rw [Ay hd]; rfl)) ?_))))))
  refine AV rfl B4 rfl (AZ rfl rfl rfl (Ab (Aa (Aq _ rfl ?_ ?_))))
  ·intro h1
   replace h1:=AF h1
   obtain ⟨d,hd2⟩:=A0 (l:=ds) (i:=i) (by omega)
   refine Ao (Aa (An (Au (Af (A2 rfl rfl (AJ rfl rfl (Ah rfl Ec rfl (Bb rfl Gw rfl ((by rw [Ay hd]; rfl)) ?_))))))))
   refine Ad rfl rfl (AK R rfl B4 B2 rfl rfl (by omega) (by omega) (by rfl) ?_)
   refine Ah rfl Dw rfl (Bb rfl BK rfl ((R.fld hd2 rfl (j:=0) rfl)) ?_)
   refine Ad rfl rfl (Cu rfl rfl rfl (Ab (Aa (Aq _ rfl ?_ ?_))))
   ·intro h2
    replace h2:=AF h2
    refine Af (Ad rfl rfl (Ae rfl rfl (Ab (Aa (A8 (A1 (Al (Al (A1 (Al (AB (v:=(.int _ _)) rfl rfl rfl ?_)))))))))))
    exact ⟨rfl,.inr ⟨i,d,rfl,hd2,h2,hb⟩⟩
   ·intro h2
    replace h2:=AG h2
    refine Ao (A5 (Aa (Av (Ad rfl rfl (Ap rfl rfl rfl (by omega) (by omega) ?_)))))
    refine Ae rfl rfl (Ab (Aa ?_))
    refine ⟨i+1,rfl,⟨rfl,trivial⟩,⟨by omega,rfl,fun j e hj he=>?_⟩,by omega⟩
    rcases Nat.lt_or_ge j i with h7 | h7
    ·exact hb j e h7 he
    ·obtain rfl:j=i:=by omega
     rw [hd2] at he
     cases he
     exact h2
  ·intro h1
   replace h1:=AG h1
   refine Bc (Ak (Ak (AD (Aa (Af (Ae rfl rfl (Ab (Aa (A8 (AB (v:=(.int _ _)) rfl rfl rfl ?_))))))))))
   exact ⟨rfl,.inl ⟨rfl,UM fun j e hj he=>hb j e (by omega) he⟩⟩
end Go.Proofs.YtapphbmlkdhnmaaGreat

/- The dues of the reference: remove. -/
namespace Go.Proofs.YtapphbmlkdhnmaaGreat
open Go.GV
attribute [local irreducible] AL W Wq Wt

set_option maxRecDepth 20000 in
set_option maxHeartbeats 2000000 in
theorem UN {bd:Nat} (a:Option Addr) (n c i:Nat) (ds:List Du) (nx:Int) (w:World) (hd:w.heap[bd]? = some (Bl 48 [.slice a n c,.int .u64 nx])) (hR:∀ w',Ext [bd] w w'→Rd w' a 7 Cf ds) (hn:ds.length=n) (hc:ds.length≤c) (hn2:n≤1000000) (hi:i<n) :
  Ret Tryz.prog 142 #[ptr bd,.int .i64 (i:Int)] w fun v w'=>v = .tuple #[]∧∃ a' c' full,OS a' (ds.eraseIdx i).length c' 7 full ((ds.eraseIdx i).flatMap Cf)∧Ctx w [bd] w' ((bd,Bl 48 [.slice a' (ds.eraseIdx i).length c',.int .u64 nx])::ent a' 62 full):=by
 subst hn
 obtain ⟨w0,rfl⟩:∃ w0,w0=w:=⟨_,rfl⟩
 have H:=Ctx.start1 hd
 have hel:(ds.eraseIdx i).length=i+(ds.length - (i+1)):=by rw [List.length_eraseIdx]; split <;> omega
 have hef:(ds.eraseIdx i).flatMap Cf=(ds.take i).flatMap Cf++(ds.drop (i+1)).flatMap Cf:=by rw [List.eraseIdx_eq_take_drop_succ,List.flatMap_append]
 refine A9 (fn:=Tryz.f142) Tryz.func142 rfl [.pointer (some ⟨bd,0,none⟩),.int .i64 (i:Int)] rfl (by kernel_rfl) ?_
 refine Af (Az rfl rfl (Ab (Aa (Af (Aj rfl rfl (A2 rfl rfl (AJ rfl rfl (Ah rfl Ec rfl (AN rfl Gw rfl H at0 rfl (Ad rfl rfl ?_))))))))))
 refine Hn rfl B4 B2 rfl rfl (by omega) (by omega) ?_
 refine Fz (L:=[_]) (a:=none) (n:=0) (c:=0) (full:=[]) (l:=[]) rfl B4 B4 B2 L7 Eh rfl (by decide) ((ds.take i).flatMap Cf) rfl rfl H OS.nil (by rw [Hd,List.length_take]; omega) (JD _) (((hR _ H.ext).take i).app (fun _ _=>rfl) (by omega)) (by omega) ?_
 rintro a1 c1 f1 w H O1
 refine Az rfl rfl (Ab (Aa (Av (A2 rfl rfl (Aj rfl rfl (A2 rfl rfl (AJ rfl rfl (Ah rfl Ec rfl (AN rfl Gw rfl H at0 rfl (Ad rfl rfl ?_))))))))))
 refine Ap rfl rfl rfl (by omega) (by omega) ?_
 rw [show (i:Int)+1=((i+1:Nat):Int) by omega]
 refine Lz rfl B4 B2 rfl rfl (by omega) (by omega) ?_
 refine Fz (L:=[_]) rfl B4 B4 B2 L7 Eh rfl (by decide) ((ds.drop (i+1)).flatMap Cf) rfl rfl H O1 (by rw [Hd,List.length_drop]; rfl) (JD _) (((hR _ H.ext).cut (i+1) c hc).app (fun _ _=>rfl) (by omega)) (by omega) ?_
 rintro a2 c2 f2 w H O2
 refine AJ rfl rfl (Ah rfl Ec rfl (Cy (.slice _ _ _) rfl Zj rfl rfl rfl H at0 (by (simp; done)) ?_))
 rintro w H
 refine Ab (Db rfl rfl ?_)
 have hln:0+((i:Int)).toNat+(ds.length - ((i+1:Nat):Int).toNat)=(ds.eraseIdx i).length:=by rw [hel]; omega
 rw [List.nil_append,← hef,hln] at O2
 rw [hln] at H
 exact ⟨rfl,a2,c2,f2,O2,H⟩
end Go.Proofs.YtapphbmlkdhnmaaGreat

/- The dues of the reference: Pay. -/
namespace Go.Proofs.YtapphbmlkdhnmaaGreat
open Go.GV
attribute [local irreducible] AL W Wq Wt

theorem KI {α:Type} {l:List α} {i:Nat} {x:α}:(l.set i x).eraseIdx i=l.eraseIdx i:=by
 induction l generalizing i with
 | nil=>rfl
 | cons y l ih =>
  cases i with
  | zero=>rfl
  | succ i=>simp [ih]
set_option maxRecDepth 20000 in
set_option maxHeartbeats 4000000 in
theorem UO {bd:Nat} {nx k x:Int} {ds:List Du} (a:Option Addr) (c:Nat) (full:List Value) (w:World) (hd:w.heap[bd]? = some (Bl 48 [.slice a ds.length c,.int .u64 nx])) (O:OS a ds.length c 7 full (ds.flatMap Cf))
  (hb:∀ y∈ent a 62 full,w.heap[y.1]? = some y.2∧y.1≠bd) (hn2:ds.length≤1000000) (ham:∀ d∈ds,0≤d.am∧d.am≤4503599627370496) :
  Ret Tryz.prog 73 #[ptr bd,.int .u64 k,.int .i64 x] w fun v w'=>v = .int .i64 (He ds k x)∧∃ a' c' full',w'.heap[bd]? = some (Bl 48 [.slice a' (IM ds k x).length c',.int .u64 nx])∧OS a' (IM ds k x).length c' 7 full' ((IM ds k x).flatMap Cf) ∧
   (∀ y∈ent a' 62 full',w'.heap[y.1]? = some y.2∧y.1≠bd∧(y.1∈(ent a 62 full).map (·.1)∨w.heap.size≤y.1))∧Ext (bd::(ent a 62 full).map (·.1)) w w':=by
 obtain ⟨w0,rfl⟩:∃ w0,w0=w:=⟨_,rfl⟩
 have R:Rd w0 a 7 Cf ds:=OS.rd O (fun x hx=>(hb x hx).1) (fun _ _=>rfl) (by omega)
 have hsame:∀ {C:Int},He ds k x=C→C≠0→IM ds k x=ds:=fun h1 h2=>by unfold IM; rw [h1,if_neg h2]
 have hsm:∀ y∈ent a 62 full,w0.heap[y.1]? = some y.2∧y.1≠bd∧(y.1∈(ent a 62 full).map (·.1)∨w0.heap.size≤y.1):=fun y hy=>⟨(hb y hy).1,(hb y hy).2,.inl (List.mem_map_of_mem (f:=(·.1)) hy)⟩
 refine A9 (fn:=Tryz.f73) Tryz.func73 rfl [.pointer (some ⟨bd,0,none⟩),.int .u64 k,.int .i64 x] rfl (by kernel_rfl) ?_
 refine Af (Ae rfl rfl (Ab (Aa (Af (A2 rfl rfl (Ad rfl rfl (Am rfl ZT (Xb a ds.length c ds nx k _ hd R rfl hn2) rfl ?_)))))))
 rintro v w ⟨rfl,hpl⟩
 obtain ⟨pi,rfl,hpi⟩:∃ pi:Int,v = .int .i64 pi∧((pi = -1∧DC ds k=none)∨∃ (i:Nat) (d:Du),pi=(i:Int)∧PlD ds k i d):=hpl.elim (fun h=>⟨-1,h.1,.inl ⟨rfl,h.2⟩⟩) (fun ⟨i,d,h1,h2⟩=>⟨i,h1,.inr ⟨i,d,rfl,h2⟩⟩)
 refine Ae rfl rfl (Ab (Aa (An (Af (Ad rfl rfl (AZ rfl rfl rfl (Ab (Aa (Aq _ rfl ?_ ?_)))))))))
 ·intro h1
  replace h1:=AF h1
  refine Af (Ae rfl rfl (Ab (Aa (A8 (Al (AB (v:=(.int _ _)) rfl rfl rfl ?_))))))
  rcases hpi with ⟨-,hf⟩ | ⟨i,d,rfl,-⟩
  ·have hC:He ds k x=11:=by unfold He; rw [hf]
   rw [hsame hC (by decide),hC]
   exact ⟨rfl,a,c,full,hd,O,hsm,Ext.refl _ _⟩
  ·omega
 ·intro h1
  replace h1:=AG h1
  obtain ⟨i,d,hpe,P⟩:∃ (i:Nat) (d:Du),pi=(i:Int)∧PlD ds k i d:=hpi.elim (fun h=>by omega) id
  subst hpe
  have hil:=Cr P.at'
  have hdm:=ham d (List.mem_of_getElem? P.at')
  have hC0:He ds k x=pC d x:=by unfold He; rw [P.find]
  have hcs:(pC d x=if x<0 then 1 else if d.held=true then 14 else if d.am<x then 12 else 0):=rfl
  obtain ⟨q,rfl⟩:=O.form (by omega)
  have hqb:w0.heap[q]? = some (Bl 62 full)∧q≠bd:=hb (q,Bl 62 full) (List.mem_singleton.2 rfl)
  have H:Ctx w0 (bd::[q]) w0 [(bd,Bl 48 [.slice (some ⟨q,0,none⟩) ds.length c,.int .u64 nx]),(q,Bl 62 full)]:=⟨Ext.refl _ _,fun y hy=>by
   simp only [List.mem_cons,List.not_mem_nil,or_false] at hy
   rcases hy with rfl | rfl
   ·exact hd
   ·exact hqb.1,by simp only [List.pairwise_cons,List.mem_singleton,forall_eq,List.not_mem_nil,false_implies,implies_true,List.Pairwise.nil,and_true]; exact fun h=>hqb.2 h.symm,fun y hy=>by
   simp only [List.mem_cons,List.not_mem_nil,or_false] at hy
   rcases hy with rfl | rfl
   ·exact .inl (List.mem_cons_self ..)
   ·exact .inl (List.mem_cons_of_mem _ (List.mem_cons_self ..))⟩
  have hOl:=O.len
  have hOle:=O.le
  refine Ao (Aa (An (Af (Ad rfl rfl (AZ rfl rfl rfl (Ab (Aa (Aq _ rfl ?_ ?_))))))))
  ·intro h2
   replace h2:=AF h2
   refine Af (Ae rfl rfl (Ab (Aa (A8 (Al (AB (v:=(.int _ _)) rfl rfl rfl ?_))))))
   have hC:He ds k x=1:=by rw [hC0,hcs,if_pos h2]
   rw [hsame hC (by decide),hC]
   exact ⟨rfl,_,c,full,hd,O,hsm,Ext.refl _ _⟩
  ·intro h2
   replace h2:=AG h2
   refine Ao (Aa (An (Af (A2 rfl rfl (AJ rfl rfl (Ah rfl Ec rfl (AN rfl Gw rfl H at0 rfl (Ad rfl rfl (AK R rfl B4 B2 rfl rfl (by omega) (by omega) (by rfl) ?_)))))))))
   refine Ah rfl Iy rfl (Bb rfl Jf rfl ((R.fld P.at' rfl (j:=6) rfl)) ?_)
   refine Ab (Aa (Aq _ rfl ?_ ?_))
   ·intro h3
    refine Af (Ae rfl rfl (Ab (Aa (A8 (Al (AB (v:=(.int _ _)) rfl rfl rfl ?_))))))
    have hC:He ds k x=14:=by rw [hC0,hcs,if_neg (by omega),if_pos h3]
    rw [hsame hC (by decide),hC]
    exact ⟨rfl,_,c,full,hd,O,hsm,Ext.refl _ _⟩
   ·intro h3
    refine Ao (Aa (An (Af (Ad rfl rfl (A2 rfl rfl (AJ rfl rfl (Ah rfl Ec rfl (AN rfl Gw rfl H at0 rfl (Ad rfl rfl (AK R rfl B4 B2 rfl rfl (by omega) (by omega) (by rfl) ?_))))))))))
    refine Ah rfl Dp rfl (Bb rfl Bt rfl ((R.fld P.at' rfl (j:=3) rfl)) ?_)
    refine Ck rfl rfl rfl (Ab (Aa (Aq _ rfl ?_ ?_)))
    ·intro h4
     replace h4:=AF h4
     refine Af (Ae rfl rfl (Ab (Aa (A8 (Al (AB (v:=(.int _ _)) rfl rfl rfl ?_))))))
     have hC:He ds k x=12:=by rw [hC0,hcs,if_neg (by omega),if_neg (by rw [h3]; decide),if_pos h4]
     rw [hsame hC (by decide),hC]
     exact ⟨rfl,_,c,full,hd,O,hsm,Ext.refl _ _⟩
    ·intro h4
     replace h4:=AG h4
     have hC:He ds k x=0:=by rw [hC0,hcs,if_neg (by omega),if_neg (by rw [h3]; decide),if_neg (by omega)]
     have hS:IM ds k x=FT ds k x:=by unfold IM; rw [hC,if_pos rfl]
     rw [hS,hC]
     obtain ⟨e,he⟩:∃ e:Du,e={ d with am:=d.am - x }:=⟨_,rfl⟩
     have hea:e.am=d.am - x:=by rw [he]
     have O1:=OS.setf O (y:=e) (j:=3) (v := .int .i64 (d.am - x)) (fun _=>rfl) P.at' (by decide) (by rw [he]; rfl)
     obtain ⟨full2,hf2⟩:∃ full2,full2=full.set (i*7+3) (.int .i64 (d.am - x)):=⟨_,rfl⟩
     rw [← hf2] at O1
     have hat:(ds.set i e)[i]? = some e:=List.getElem?_set_self hil
     have hR2:∀ {z:World},z.heap[q]? = some (Bl 62 full2)→Rd z (some ⟨q,0,none⟩) 7 Cf (ds.set i e):=fun h=>O1.rd (t:=62) (fun y hy=>by have hy:=List.mem_singleton.1 hy; rw [hy]; exact h) (fun _ _=>rfl) (by decide)
     have hsl:(ds.set i e).length=ds.length:=List.length_set
     refine Ao (Aa (Af (A2 rfl rfl (AJ rfl rfl (Ah rfl Ec rfl (AN rfl Gw rfl H at0 rfl (Ad rfl rfl (AK R rfl B4 B2 rfl rfl (by omega) (by omega) (by rfl) ?_))))))))
     refine Ah rfl Dp rfl (Bb rfl Bt rfl ((R.fld P.at' rfl (j:=3) rfl)) ?_)
     refine Ad rfl rfl (Be rfl rfl rfl (by omega) (by omega) ?_)
     refine AK R rfl B4 B2 rfl rfl (by omega) (by omega) (by rfl) ?_
     refine Ah rfl Dp rfl (Cy (.int _ _) rfl Bu rfl rfl rfl H at1 (by show 0+((i:Int)).toNat*7+3<full.length; omega) ?_)
     rintro w H
     replace H:Ctx w0 (bd::[q]) w [(bd,Bl 48 [.slice (some ⟨q,0,none⟩) ds.length c,.int .u64 nx]),(q,Bl 62 full2)]:=by rw [hf2,show i*7+3=0+((i:Int)).toNat*7+3 by omega]; exact H
     refine Ab (Aa (An (Af (A2 rfl rfl (AJ rfl rfl (Ah rfl Ec rfl (AN rfl Gw rfl H at0 rfl (Ad rfl rfl (AK (hR2 (H.get at1)) rfl B4 B2 rfl rfl (by omega) (by omega) (by omega) ?_)))))))))
     refine Ah rfl Dp rfl (Bb rfl Bt rfl (((hR2 (H.get at1)).fld hat rfl (j:=3) (show (Cf e)[3]? = some (.int .i64 (d.am - x)) by rw [he]; rfl))) ?_)
     refine Cu rfl rfl rfl (Ab (Aa (Aq _ rfl ?_ ?_)))
     ·intro h5
      replace h5:=AF h5
      have hL:FT ds k x=ds.eraseIdx i:=by rw [P.pay,if_pos (by omega)]
      have hes:(ds.set i e).eraseIdx i=ds.eraseIdx i:=KI
      rw [hL]
      have hd2:=H.get at0
      have hq2:=H.get at1
      rw [← hsl] at hd2
      refine Av (A2 rfl rfl (Ad rfl rfl (Am rfl ZU (UN (some ⟨q,0,none⟩) (ds.set i e).length c i (ds.set i e) nx _ hd2 (fun z hz=>hR2 (hz.to hq2 (by rw [List.mem_singleton]; exact hqb.2))) rfl (by omega) (by omega) (by omega)) rfl ?_)))
      rintro v w ⟨rfl,a3,c3,f3,O3,H3⟩
      rw [hes] at O3
      rw [hes] at H3
      have hx0:=H.ext
      clear H
      have H:=H3
      refine Ab (Aa (Af (Ae rfl rfl (Ab (Aa (A8 (AB (v:=(.int _ _)) rfl rfl rfl ?_)))))))
      refine ⟨rfl,a3,c3,f3,H3.get at0,O3,fun y hy=>?_,hx0.trans (H3.ext.mono (by simp))⟩
      have hm:=List.mem_cons_of_mem (bd,Bl 48 [.slice a3 (ds.eraseIdx i).length c3,.int .u64 nx]) hy
      have hnb:y.1≠bd:=fun h=>(List.pairwise_cons.1 H3.nd).1 y hy h.symm
      refine ⟨H3.blk y hm,hnb,(H3.own y hm).elim (fun h=>absurd (List.mem_singleton.1 h) hnb) fun h => .inr (Nat.le_trans hx0.size h)⟩
     ·intro h5
      replace h5:=AG h5
      refine Ao (Aa (Af (Ae rfl rfl (Ab (Aa (A8 (AB (v:=(.int _ _)) rfl rfl rfl ?_)))))))
      have hL:FT ds k x=ds.set i e:=by rw [P.pay,if_neg (by omega),he]
      rw [hL,hsl]
      refine ⟨rfl,_,c,full2,H.get at0,O1,fun y hy=>?_,H.ext⟩
      have hy:=List.mem_singleton.1 hy
      rw [hy]
      exact ⟨H.get at1,hqb.2,.inl (List.mem_singleton.2 rfl)⟩
end Go.Proofs.YtapphbmlkdhnmaaGreat

/- Dues that are open: Clone, IndexFunc. -/
namespace Go.Proofs.YtapphbmlkdhnmaaGreat
open Go.GV
attribute [local irreducible] AL W Wq Wt

theorem UP (a:Option Addr) (n c:Nat) (ds:List Du) (w:World) (R:Rd w a 7 Cf ds) (hn:ds.length=n) (hm:n≤1000000000) :
  Ret Tryz.prog 157 #[.slice a n c] w fun v w'=>Fresh w w' 62 7 v (ds.flatMap Cf):=by
 subst hn
 obtain ⟨w0,rfl⟩:∃ w0,w0=w:=⟨_,rfl⟩
 have H:=Ctx.start w0 []
 refine A9 (fn:=Tryz.f157) Tryz.func157 rfl [.slice a ds.length c] rfl (by kernel_rfl) ?_
 refine Af (Az rfl rfl (Ab (Aa (An (Af (Aj rfl rfl (KX rfl B4 rfl (Ab (Aa (Aq _ rfl ?_ ?_))))))))))
 ·intro h1
  have ha:a=none:=by simpa using h1
  subst ha
  have hxs:ds=[]:=by
   cases ds with
   | nil=>rfl
   | cons x xs=>obtain ⟨b,o,h⟩:=R.some' (by simp); cases h
  subst hxs
  refine Af (Az rfl rfl (Ab (Aa (A8 (Al (AB (v:=(.slice _ _ _)) rfl rfl rfl ?_))))))
  exact Fresh.nil H _ _
 ·intro h1
  refine Ao (Aa (Af (Jz rfl B4 B2 H ?_)))
  rintro b5 w H O
  refine Aj rfl rfl (Fz rfl B4 B4 B2 L7 Eh rfl (by decide) (ds.flatMap Cf) rfl rfl H O (Hd ds) (JD ds) ((R.ext0 H.ext).app (fun _ _=>rfl) (by omega)) (by omega) ?_)
  rintro a7 c7 full7 w H O
  refine Az rfl rfl (Ab (Aa (A8 (AB (v:=(.slice _ _ _)) rfl rfl rfl ?_))))
  exact H.fresh O
theorem QQ (d:Du) (w:World):Ret Tryz.prog 158 #[Gv d] w fun v w'=>v = .bool d.held∧Ext [] w w':=by
 obtain ⟨w0,rfl⟩:∃ w0,w0=w:=⟨_,rfl⟩
 have H:=Ctx.start w0 []
 refine A9 (fn:=Tryz.f158) Tryz.func158 rfl [Gv d] rfl (by kernel_rfl) ?_
 refine Af (BC rfl (Cf d) (.agg _) rfl rfl H ?_)
 rintro b1 w - H
 refine Ai rfl rfl (Ab (Aa (Af (Ah rfl Iy rfl (AN rfl Jf rfl H at0 rfl (Ai rfl rfl (Ab (Aa (A8 (AB (v:=(.bool _)) rfl rfl rfl ?_))))))))))
 exact ⟨rfl,H.ext⟩
abbrev Zp:Value := .func (.func 158) #[] #[]
/-- The first that is held. -/
structure FstH (ds:List Du) (i:Nat):Prop where
 at':∃ d,ds[i]? = some d∧d.held=true
 fst:∀ (j:Nat) (e:Du),j<i→ds[j]? = some e→e.held=false
set_option maxRecDepth 20000 in
theorem Y4 (a:Option Addr) (n c:Nat) (ds:List Du) (w:World) (R:Rd w a 7 Cf ds) (hn:ds.length=n) (hn2:n≤1000000) :
  Ret Tryz.prog 186 #[.slice a n c,Zp] w fun v w'=>Ext [] w w'∧((v = .int .i64 (-1)∧∀ d∈ds,d.held=false)∨∃ i:Nat,v = .int .i64 (i:Int)∧FstH ds i):=by
 subst hn
 obtain ⟨w0,rfl⟩:∃ w0,w0=w:=⟨_,rfl⟩
 have H:=Ctx.start w0 []
 refine A9 (fn:=Tryz.f186) Tryz.func186 rfl [.slice a ds.length c,.func (.func 158) #[] #[]] rfl (by kernel_rfl) ?_
 refine Af (Ae rfl rfl (Ab (Aa (An (Af (Aj rfl rfl (AV rfl B4 rfl (Ad rfl rfl (Ab (Aa (Au ?_)))))))))))
 refine Bf 524080 (α:=Nat) (fun i=>[(8,.int .i64 (i:Int))]) (fun i w'=>i≤ds.length∧Ctx w0 [] w' []∧∀ (j:Nat) (e:Du),j<i→ds[j]? = some e→e.held=false) (fun i=>ds.length - i) 0 rfl ?_ ?_ ?_
 ·exact ⟨rfl,trivial⟩
 ·exact ⟨Nat.zero_le _,H,fun j e h=>absurd h (Nat.not_lt_zero _)⟩
 ·clear H
  rintro i j w ⟨hi,H,hb⟩
  refine Af (AZ rfl rfl rfl (Ab (Aa (An (Aq _ rfl ?_ ?_)))))
  ·intro h1
   replace h1:=AF h1
   obtain ⟨d,hd2⟩:=A0 (l:=ds) (i:=i) (by omega)
   refine Ao (Aa (An (Au (Af (Ad rfl rfl (Ae rfl rfl (Ab (Aa (Af (D0 rfl (.func _ _ _) rfl ?_))))))))))
   refine Aj rfl rfl (Ad rfl rfl (AK R rfl B4 B2 rfl rfl (by omega) (by omega) (by rfl) ?_))
   refine Cv _ rfl E7 B2 rfl rfl ((R.ext0 H.ext).row hd2 rfl) ?_
   refine IZ rfl rfl VA (QQ d _) rfl ?_
   rintro v w ⟨rfl,hx16⟩
   replace H:=H.call hx16
   refine Ab (Aa (Aq _ rfl ?_ ?_))
   ·intro h2
    refine Af (Ad rfl rfl (Ae rfl rfl (Ab (Aa (A8 (A1 (Al (Al (A1 (Al (AB (v:=(.int _ _)) rfl rfl rfl ?_)))))))))))
    exact ⟨H.ext,.inr ⟨i,rfl,⟨d,hd2,h2⟩,hb⟩⟩
   ·intro h2
    refine Ao (A5 (Aa (Av (Ap rfl rfl rfl (by omega) (by omega) ?_))))
    refine Ad rfl rfl (Ab (Aa ?_))
    refine ⟨i+1,rfl,⟨rfl,trivial⟩,⟨by omega,H,fun j e hj he=>?_⟩,by omega⟩
    rcases Nat.lt_or_ge j i with h7 | h7
    ·exact hb j e h7 he
    ·obtain rfl:j=i:=by omega
     rw [hd2] at he
     cases he
     exact h2
  ·intro h1
   replace h1:=AG h1
   refine Bc (Ak (Ak (AD (Aa (Af (Ae rfl rfl (Ab (Aa (A8 (AB (v:=(.int _ _)) rfl rfl rfl ?_))))))))))
   refine ⟨H.ext,.inl ⟨rfl,fun d hd=>?_⟩⟩
   obtain ⟨j,hj⟩:=List.mem_iff_getElem?.1 hd
   exact hb j d (by have:=Cr hj; omega) hj
end Go.Proofs.YtapphbmlkdhnmaaGreat

/- Dues that are open: DeleteFunc, open. -/
namespace Go.Proofs.YtapphbmlkdhnmaaGreat
open Go.GV
attribute [local irreducible] AL W Wq Wt

def opn (ds:List Du):List Du:=ds.filter fun d => !d.held
theorem OB:∀ (vs l:List Value) (o k:Nat),k≤o→(over l o vs).take k=l.take k
 | [],_,_,_,_=>rfl
 | v::vs,l,o,k,h=>by
  show (over (l.set o v) (o+1) vs).take k=_
  rw [OB vs (l.set o v) (o+1) k (by omega)]
  refine List.ext_getElem? fun j=>?_
  rw [List.getElem?_take,List.getElem?_take]
  split
  ·rw [List.getElem?_set_ne (by omega)]
  ·rfl
theorem OS.shrink {α:Type} {a:Option Addr} {n c s i:Nat} {full vs:List Value} {enc:α→List Value} {L:List α} {o:Nat} (O:OS a n c s full (L.flatMap enc)) (hs:∀ x∈L,(enc x).length=s) (hi:i≤n) (hL:L.length=n) (ho:vs=[]∨i*s≤o):OS a i c s (Go.GV.over full o vs) ((L.take i).flatMap enc):=by
 refine ⟨O.zero,O.none',by rw [EN]; exact O.len,Nat.le_trans hi O.le,?_⟩
 have h1:(Go.GV.over full o vs).take (i*s)=full.take (i*s):=by
  rcases ho with rfl | ho
  ·rfl
  ·exact OB _ _ _ _ ho
 rw [h1]
 have h2:full.take (i*s)=(full.take (n*s)).take (i*s):=by
  rw [List.take_take,Nat.min_eq_left (Nat.mul_le_mul_right _ hi)]
 rw [h2,O.pre]
 have h3:L.flatMap enc=(L.take i).flatMap enc++(L.drop i).flatMap enc:=by rw [← List.flatMap_append,List.take_append_drop]
 have h4:((L.take i).flatMap enc).length=i*s:=by
  rw [EC fun z hz=>hs z (List.mem_of_mem_take hz),List.length_take,Nat.min_eq_left (by omega)]
 rw [h3]
 exact List.take_left' h4
theorem KL (ds:List Du) (d:Du):opn (ds++[d])=opn ds++if d.held=true then [] else [d]:=by
 unfold opn
 rw [List.filter_append]
 cases h:d.held <;> simp [h]
theorem TO {ds:List Du} (h:∀ d∈ds,d.held=false):opn ds=ds:=by
 unfold opn
 rw [List.filter_eq_self]
 intro d hd
 rw [h d hd]; rfl
structure DSt where
 i:Nat
 j:Nat
 L:List Du
 full:List Value
set_option maxRecDepth 20000 in
set_option maxHeartbeats 4000000 in
theorem Ab2 (a:Option Addr) (c:Nat) (full:List Value) (ds:List Du) (w:World) (O:OS a ds.length c 7 full (ds.flatMap Cf)) (hb:∀ y∈ent a 62 full,w.heap[y.1]? = some y.2) (hn2:ds.length≤1000000) :
  Ret Tryz.prog 156 #[.slice a ds.length c,Zp] w fun v w'=>∃ full',v = .slice a (opn ds).length c∧OS a (opn ds).length c 7 full' ((opn ds).flatMap Cf)∧Ctx w ((ent a 62 full).map (·.1)) w' (ent a 62 full'):=by
 obtain ⟨w0,rfl⟩:∃ w0,w0=w:=⟨_,rfl⟩
 have R:Rd w0 a 7 Cf ds:=OS.rd O hb (fun _ _=>rfl) (by omega)
 have H:Ctx w0 ((ent a 62 full).map (·.1)) w0 (ent a 62 full):=⟨Ext.refl _ _,hb,Ir,fun x hx => .inl (List.mem_map_of_mem (f:=(·.1)) hx)⟩
 refine A9 (fn:=Tryz.f156) Tryz.func156 rfl [.slice a ds.length c,.func (.func 158) #[] #[]] rfl (by kernel_rfl) ?_
 refine Af (Az rfl rfl (Ab (Aa (Af (Aj rfl rfl (D0 rfl (.func _ _ _) rfl ?_))))))
 refine Am rfl Aam (Y4 a ds.length c ds _ R rfl hn2) rfl ?_
 rintro v w ⟨hx10,hidx⟩
 replace H:=H.call hx10
 obtain ⟨pi,rfl,hpi⟩:∃ pi:Int,v = .int .i64 pi∧((pi = -1∧∀ d∈ds,d.held=false)∨∃ i:Nat,pi=(i:Int)∧FstH ds i):=hidx.elim (fun h=>⟨-1,h.1,.inl ⟨rfl,h.2⟩⟩) (fun ⟨i,h1,h2⟩=>⟨i,h1,.inr ⟨i,rfl,h2⟩⟩)
 refine Ae rfl rfl (Ab (Aa (An (Af (Ad rfl rfl (Cu rfl rfl rfl (Ab (Aa (Aq _ rfl ?_ ?_)))))))))
 ·intro h1
  replace h1:=AF h1
  refine Af (Aj rfl rfl (Az rfl rfl (Ab (Aa (A8 (Al (AB (v:=(.slice _ _ _)) rfl rfl rfl ?_)))))))
  have hal:∀ d∈ds,d.held=false:=hpi.elim (fun h=>h.2) fun ⟨i,h,_⟩=>by omega
  rw [TO hal]
  exact ⟨full,rfl,O,H⟩
 ·intro h1
  replace h1:=AG h1
  obtain ⟨i,hpe,P⟩:∃ i:Nat,pi=(i:Int)∧FstH ds i:=hpi.elim (fun h=>absurd h.1 h1) id
  subst hpe
  obtain ⟨d0,hd0,hh0⟩:=P.at'
  have hil:=Cr hd0
  obtain ⟨q,rfl⟩:=O.form (by omega)
  replace H:Ctx w0 [q] w [(q,Bl 62 full)]:=H
  have hop0:opn (ds.take i)=ds.take i:=TO fun d hd=>by
   obtain ⟨j,hj⟩:=List.mem_iff_getElem?.1 hd
   rw [List.getElem?_take] at hj
   split at hj
   ·exact P.fst j d (by assumption) hj
   ·cases hj
  have hst0:opn (ds.take (i+1))=ds.take i:=by
   rw [List.take_add_one,hd0]
   show opn (ds.take i++[d0])=_
   rw [KL,if_pos hh0,hop0,List.append_nil]
  refine Ao (Aa (An (Af (Ad rfl rfl (Ap rfl rfl rfl (by omega) (by omega) ?_)))))
  refine Ae rfl rfl (Ab (Aa (Au (Bf 68719411424 (α:=DSt) (fun t=>[(5,.int .i64 (t.i:Int)),(6,.int .i64 (t.j:Int))]) (fun t w'=>t.i<t.j∧t.j≤ds.length∧t.L.length=ds.length∧t.L.take t.i=opn (ds.take t.j)∧(∀ p,t.j≤p→t.L[p]? = ds[p]?)∧OS (some ⟨q,0,none⟩) ds.length c 7 t.full (t.L.flatMap Cf)∧Ctx w0 [q] w' [(q,Bl 62 t.full)]) (fun t=>ds.length - t.j) ⟨i,i+1,ds,full⟩ rfl ?_ ?_ ?_))))
  ·exact ⟨rfl,rfl,trivial⟩
  ·exact ⟨Nat.lt_succ_self _,by dsimp only; omega,rfl,hst0.symm,fun p _=>rfl,O,H⟩
  ·clear H
   rintro ⟨i,j,L,fu⟩ jj w ⟨hij,hj,hL,hT,hS,O1,H⟩; dsimp only at hij hj hL hT hS O1 H; dsimp only
   have hOl:=O1.len
   have hOle:=O1.le
   refine An (Af (Ad rfl rfl (Aj rfl rfl (AV rfl B4 rfl (AZ rfl rfl rfl (Ab (Aa (Aq _ rfl ?_ ?_))))))))
   ·intro h2
    replace h2:=AF h2
    obtain ⟨d,hdj⟩:=A0 (l:=ds) (i:=j) (by omega)
    have hLd:L[j]? = some d:=by rw [hS j (Nat.le_refl _),hdj]
    have R1:Rd w (some ⟨q,0,none⟩) 7 Cf L:=O1.rd (t:=62) (fun y hy=>by have hy:=List.mem_singleton.1 hy; rw [hy]; exact H.get at0) (fun _ _=>rfl) (by decide)
    have htk:ds.take (j+1)=ds.take j++[d]:=by rw [List.take_add_one,hdj]; rfl
    refine Ao (Aa (An (Au (Af (Aj rfl rfl (Ad rfl rfl (AK R1 rfl B4 B2 rfl rfl (by omega) (by omega) (by omega) ?_)))))))
    refine Cv _ rfl E7 B2 rfl rfl (R1.row hLd rfl) ?_
    refine Bj rfl Eh H ?_
    rintro b7 w - H
    refine B5 rfl B2 rfl rfl rfl (by exact DM _) H at0 rfl ?_
    rintro w H
    refine Ab (Aa (Af (D0 rfl (.func _ _ _) rfl ?_)))
    refine B6 rfl E7 B2 rfl H at0 rfl (IZ rfl rfl VA (QQ d _) rfl ?_)
    rintro v w ⟨rfl,hx28⟩
    replace H:=H.call hx28
    refine B1 rfl rfl (Ab (Aa (Aq _ rfl ?_ ?_)))
    ·intro h3
     replace h3:=Bv h3
     have h3':¬ d.held=true:=by simpa using h3
     obtain ⟨y,hy⟩:=A0 (l:=L) (i:=i) (by omega)
     have O2:=OS.over O1 (fun _=>rfl) hy d
     refine Af (Aj rfl rfl (Ad rfl rfl (B6 rfl E7 B2 rfl H at0 rfl (AK R1 rfl B4 B2 rfl rfl (by omega) (by omega) (by omega) ?_))))
     refine Iq (vs:=Cf d) rfl B2 rfl rfl rfl (DM d) H at1 (by show 0+(i:Int).toNat*7+7≤_; omega) ?_
     rintro w H
     replace H:Ctx w0 [q] w [(b7,Bl 62 (Cf d)),(q,Bl 62 (over fu (i*7) (Cf d)))]:=by rw [show i*7=0+((i:Int)).toNat*7 by omega]; exact H
     refine Ab (Aa (Av (Ad rfl rfl (Ap rfl rfl rfl (by omega) (by omega) ?_))))
     refine Ae rfl rfl (Ab (A5 (Aa (Av (Ad rfl rfl (Ap rfl rfl rfl (by omega) (by omega) ?_))))))
     refine Ae rfl rfl (Ab (Aa ?_))
     refine ⟨⟨i+1,j+1,L.set i d,over fu (i*7) (Cf d)⟩,rfl,⟨rfl,rfl,trivial⟩,⟨by dsimp only; omega,by dsimp only; omega,by dsimp only; rw [List.length_set]; exact hL,?_,fun p hp=>?_,O2,?_⟩,by dsimp only; omega⟩
     ·dsimp only
      rw [htk,KL,if_neg h3',← hT,List.take_add_one,List.getElem?_set_self (by omega)]
      congr 1
      refine List.ext_getElem? fun z=>?_
      rw [List.getElem?_take,List.getElem?_take]
      split
      ·rw [List.getElem?_set_ne (by omega)]
      ·rfl
     ·dsimp only at hp ⊢
      rw [List.getElem?_set_ne (by omega)]
      exact hS p (by omega)
     ·exact H.tail
    ·intro h3
     replace h3:=Bw h3
     have h3':d.held=true:=by simpa using h3
     refine Ao (A5 (Aa (Av (Ad rfl rfl (Ap rfl rfl rfl (by omega) (by omega) ?_)))))
     refine Ae rfl rfl (Ab (Aa ?_))
     refine ⟨⟨i,j+1,L,fu⟩,rfl,⟨rfl,rfl,trivial⟩,⟨by dsimp only; omega,by dsimp only; omega,hL,?_,fun p hp=>hS p (by dsimp only at hp; omega),O1,H.tail⟩,by dsimp only; omega⟩
     dsimp only
     rw [htk,KL,if_pos h3',List.append_nil]
     exact hT
   ·intro h2
    replace h2:=AG h2
    obtain rfl:j=ds.length:=by omega
    rw [List.take_length] at hT
    have hlen:(opn ds).length=i:=by rw [← hT,List.length_take]; omega
    obtain ⟨o',ho',ho2⟩:∃ o',RG (some ⟨q,0,none⟩) c i 7=some ⟨q,o',none⟩∧((c=i∧o'=0)∨o'=i*7):=by
     unfold RG
     by_cases h:c=i
     ·rw [if_pos h]; exact ⟨0,rfl,.inl ⟨h,rfl⟩⟩
     ·rw [if_neg h]; exact ⟨0+i*7,(by show some (Addr.add _ _)=_; rw [Dl]),.inr (Nat.zero_add _)⟩
    refine Bc (Ak (Ak (AD (Aa (Af (Aj rfl rfl (Ad rfl rfl (Lz rfl B4 B2 rfl rfl (by omega) (by omega) ?_))))))))
    refine NR (b:=q) (o:=o') (n:=ds.length - i) (c:=c - i) (s:=7) rfl B4 Eh rfl (by simp [Bm]) (show Value.slice (RG (some ⟨q,0,none⟩) c i 7) (ds.length - i) (c - i)=_ by rw [ho']) H at0 (by omega) ?_
    rintro w H
    refine Ab (Aa (Af (Aj rfl rfl (Ad rfl rfl (Hn rfl B4 B2 rfl rfl (by omega) (by omega) ?_)))))
    refine Az rfl rfl (Ab (Aa (A8 (AB (v:=(.slice _ _ _)) rfl rfl rfl ?_))))
    have O3:=OS.shrink (i:=i) (o:=o') (vs:=(List.replicate (ds.length - i) [Value.int .u64 0,.int .i64 0,.int .i64 0,.int .i64 0,.int .i64 0,.int .i64 0,.bool false]).flatten) O1 (fun _ _=>rfl) (by omega) hL (ho2.elim (fun h=>by omega) fun h => .inr (by omega))
    rw [hT] at O3
    rw [hlen]
    exact ⟨_,rfl,O3,H⟩
end Go.Proofs.YtapphbmlkdhnmaaGreat

/- Dues that are open; may a round be built? -/
namespace Go.Proofs.YtapphbmlkdhnmaaGreat
open Go.GV
attribute [local irreducible] AL W Wq Wt

theorem Y5 (a:Option Addr) (n c:Nat) (ds:List Du) (w:World) (R:Rd w a 7 Cf ds) (hn:ds.length=n) (hm:n≤1000000) :
  Ret Tryz.prog 105 #[.slice a n c] w fun v w'=>Fresh w w' 62 7 v ((opn ds).flatMap Cf):=by
 subst hn
 obtain ⟨w0,rfl⟩:∃ w0,w0=w:=⟨_,rfl⟩
 refine A9 (fn:=Tryz.f105) Tryz.func105 rfl [.slice a ds.length c] rfl (by kernel_rfl) ?_
 refine Af (Az rfl rfl (Ab (Aa (Af (Aj rfl rfl (Am rfl ZX (UP a ds.length c ds _ R rfl (by omega)) rfl ?_))))))
 rintro v w F
 obtain ⟨a4,n4,c4,f4,rfl,O4,hb4⟩:=F.ex
 have hl4:=O4.llen
 rw [Hd] at hl4
 obtain rfl:ds.length=n4:=by omega
 refine Am rfl ZW (Ab2 a4 c4 f4 ds _ O4 (fun y hy=>(hb4 y hy).1) hm) rfl ?_
 rintro v w ⟨f5,rfl,O5,H5⟩
 refine Az rfl rfl (Ab (Aa (A8 (AB (v:=(.slice _ _ _)) rfl rfl rfl ?_))))
 refine ⟨⟨_,_,_,f5,rfl,O5,fun x hx=>⟨H5.blk x hx,?_⟩⟩,F.ext.then H5.ext fun x hx=>?_⟩
 ·rcases H5.own x hx with h | h
  ·obtain ⟨y,hy,hyx⟩:=List.mem_map.1 h
   rw [← hyx]
   exact (hb4 y hy).2
  ·exact Nat.le_trans F.ext.size h
 ·obtain ⟨y,hy,rfl⟩:=List.mem_map.1 hx
  exact .inr (hb4 y hy).2
/-- The dues with numbers from 1 on. -/
def Ev:Nat→List Du→List Du
 | _,[]=>[]
 | i,d::ds=>{ d with id:=(i:Int)+1 }::Ev (i+1) ds
theorem OC (i:Nat) (ds:List Du):(Ev i ds).length=ds.length:=by
 induction ds generalizing i with
 | nil=>rfl
 | cons d ds ih=>show (Ev (i+1) ds).length+1=ds.length+1; rw [ih]
theorem PA (i:Nat) (ds es:List Du):Ev i (ds++es)=Ev i ds++Ev (i+ds.length) es:=by
 induction ds generalizing i with
 | nil=>rfl
 | cons d ds ih =>
  show _::Ev (i+1) (ds++es)=_::(Ev (i+1) ds++Ev (i+(ds.length+1)) es)
  rw [ih,show i+1+ds.length=i+(ds.length+1) by omega]
theorem S7 {ds:List Du} {i:Nat} {d:Du} (h:ds[i]? = some d):Ev 0 (ds.take (i+1))=Ev 0 (ds.take i)++[{ d with id:=(i:Int)+1 }]:=by
 have hl:=Cr h
 rw [List.take_add_one,h]
 show Ev 0 (ds.take i++[d])=_
 rw [PA,List.length_take,Nat.min_eq_left (by omega),Nat.zero_add]; rfl
theorem Xc {ds:List Du}:∀ (i:Nat) (d:Du),d∈Ev i ds→(i:Int)<d.id∧d.id≤i+ds.length:=by
 induction ds with
 | nil=>intro i d h; cases h
 | cons x ds ih =>
  intro i d h
  rcases List.mem_cons.1 h with rfl | h
  ·dsimp only [List.length_cons]; omega
  ·have:=ih (i+1) d h
   rw [List.length_cons]; omega
theorem UQ {ds:List Du}:∀ (i:Nat),Fb ((i:Int)+ds.length+1) i (Ev i ds)=ds.all DS:=by
 induction ds with
 | nil=>intro i; rfl
 | cons d ds ih =>
  intro i
  have h:=ih (i+1)
  show ((DS d && (decide ((i:Int)<(i:Int)+1) && decide ((i:Int)+1<_))) && Fb _ ((i:Int)+1) (Ev (i+1) ds))=(DS d && ds.all DS)
  rw [← h,decide_eq_true (show (i:Int)<(i:Int)+1 by omega),decide_eq_true (show (i:Int)+1<(i:Int)+((d::ds).length:Nat)+1 by rw [List.length_cons]; omega),show ((i:Int)+((d::ds).length:Nat)+1)=(((i+1:Nat):Int)+ds.length+1) by rw [List.length_cons]; omega]
  simp
/-- May such a round be built? -/
def CD (rs:List Int) (ds:List Du):Bool :=
 decide (rs.length≤16) && (!decide ((Fg rs).2=1) && (ds.all (fun d=>decide (max d.fr d.to<rs.length)) && decide (ofC (Ev 0 ds) (ds.length+1)=0)))
end Go.Proofs.YtapphbmlkdhnmaaGreat

/- May a round be built: the walk. -/
namespace Go.Proofs.YtapphbmlkdhnmaaGreat
open Go.GV
attribute [local irreducible] AL W Wq Wt

theorem UR {rs:List Int} {ds:List Du} {i:Nat} {d:Du} (hd:ds[i]? = some d) (h:¬ max d.fr d.to<rs.length):CD rs ds=false:=by
 unfold CD
 have:ds.all (fun d=>decide (max d.fr d.to<rs.length))=false:=by
  rw [List.all_eq_false]
  exact ⟨d,List.mem_of_getElem? hd,by simpa using h⟩
 rw [this]
 simp
set_option maxRecDepth 20000 in
set_option maxHeartbeats 4000000 in
theorem US (a b:Option Addr) (n c m e:Nat) (rs:List Int) (ds:List Du) (w:World) (R:Rd w a 1 I1 rs) (hn:rs.length=n) (hn2:n≤1000000) (Rd':Rd w b 7 Cf ds) (hm:ds.length=m) (hm2:m≤1000000) :
  Ret Tryz.prog 104 #[.slice a n c,.slice b m e] w fun v w'=>v = .bool (CD rs ds)∧Ext [] w w':=by
 subst hn hm
 obtain ⟨w0,rfl⟩:∃ w0,w0=w:=⟨_,rfl⟩
 have H:=Ctx.start w0 []
 obtain ⟨tt,htt⟩:∃ tt,tt=Fg rs:=⟨_,rfl⟩
 refine A9 (fn:=Tryz.f104) Tryz.func104 rfl [.slice a rs.length c,.slice b ds.length e] rfl (by kernel_rfl) ?_
 refine Af (Ai rfl rfl (Ab (Aa (An (Af (Aj rfl rfl (AV rfl AO rfl (Ck rfl rfl rfl (Ab (Aa (Aq _ rfl ?_ ?_)))))))))))
 ·intro h1
  replace h1:=AF h1
  refine Af (Ai rfl rfl (Ab (Aa (A8 (Al (AB (v:=(.bool _)) rfl rfl rfl ?_))))))
  exact ⟨congrArg Value.bool (by unfold CD; rw [decide_eq_false (show ¬ rs.length≤16 by omega)]; rfl),H.ext⟩
 ·intro h1
  replace h1:=AG h1
  have h1':decide (rs.length≤16)=true:=decide_eq_true (by omega)
  refine Ao (Aa (An (Af (Aj rfl rfl (Am rfl Pn (Me a rs.length c rs _ R rfl hn2) rfl ?_)))))
  rintro v w ⟨rfl,rfl⟩
  rw [← htt]
  refine B9 rfl rfl (A3 rfl rfl rfl (A3 rfl rfl rfl (Ae rfl rfl (Ae rfl rfl (Ab (Aa (Af (Ad rfl rfl (Cu rfl rfl rfl (Ab (Aa ?_)))))))))))
  refine Aq _ rfl ?_ ?_
  ·intro h2
   replace h2:=AF h2
   refine Af (Ai rfl rfl (Ab (Aa (A8 (Al (AB (v:=(.bool _)) rfl rfl rfl ?_))))))
   exact ⟨congrArg Value.bool (by unfold CD; rw [← htt,h2,h1']; rfl),H.ext⟩
  ·intro h2
   replace h2:=AG h2
   refine Ao (Aa (Af (Az rfl rfl (Ab (Aa (An (Af (Aj rfl rfl (AV rfl B4 rfl (Ad rfl rfl (Ab (Aa ?_))))))))))))
   refine Au (Bf 70368727401360 (α:=LSt) (fun t=>[(7,.slice t.a t.i t.c),(24,.int .i64 (t.i:Int))]) (fun t w'=>t.i≤ds.length∧OS t.a t.i t.c 7 t.full ((Ev 0 (ds.take t.i)).flatMap Cf)∧Ctx w0 [] w' (ent t.a 62 t.full)∧∀ (j:Nat) (d:Du),j<t.i→ds[j]? = some d→max d.fr d.to<rs.length) (fun t=>ds.length - t.i) ⟨0,none,0,[]⟩ rfl ?_ ?_ ?_)
   ·exact ⟨rfl,rfl,trivial⟩
   ·exact ⟨Nat.zero_le _,OS.nil,H,fun j d h=>absurd h (Nat.not_lt_zero _)⟩
   ·clear H
    rintro ⟨i,a2,c2,full⟩ jj w ⟨hi,O,H,hb⟩; dsimp only at hi O H hb; dsimp only
    refine Af (AZ rfl rfl rfl (Ab (Aa (An (Aq _ rfl ?_ ?_)))))
    ·intro h3
     replace h3:=AF h3
     obtain ⟨d,hd⟩:=A0 (l:=ds) (i:=i) (by omega)
     obtain ⟨d',hd'⟩:∃ d':Du,d'={ d with id:=(i:Int)+1 }:=⟨_,rfl⟩
     refine Ao (Aa (An (Au (Af (Ad rfl rfl (AK Rd' rfl B4 B2 rfl rfl (by omega) (by omega) (by rfl) ?_))))))
     refine Cv _ rfl E7 B2 rfl rfl ((Rd'.ext0 H.ext).row hd rfl) ?_
     refine Bj rfl Eh H ?_
     rintro b9 w - H
     refine Ae rfl rfl (B5 rfl B2 rfl rfl rfl (by exact DM _) H at0 rfl ?_)
     rintro w H
     refine Ab (Aa (An (Af (Ah rfl E1 rfl (AN rfl BV rfl H at0 rfl (Ah rfl E3 rfl (AN rfl BV rfl H at0 rfl (Jy rfl rfl rfl ?_))))))))
     refine Aj rfl rfl (AV rfl AO rfl (Cx rfl rfl rfl (Ab (Aa (Aq _ rfl ?_ ?_)))))
     ·intro h4
      replace h4:=AF h4
      refine Af (Ai rfl rfl (Ab (Aa (A8 (Al (A1 (Al (Al (A1 (Al (AB (v:=(.bool _)) rfl rfl rfl ?_)))))))))))
      exact ⟨congrArg Value.bool (UR hd (show ¬ max d.fr d.to<rs.length by omega)).symm,H.ext⟩
     ·intro h4
      replace h4:=AG h4
      refine Ao (Aa (Af (Ad rfl rfl (DI rfl rfl Qx Gx (by omega) (by omega) ?_))))
      refine Ey rfl rfl rfl (by omega) (by omega) ?_
      refine Ah rfl Dw rfl (Cy (.int _ _) rfl Bo rfl rfl rfl H at0 (by (simp; done)) ?_)
      rintro w H
      refine Ab (Aa ?_)
      replace H:Ctx w0 [] w ((b9,Bl 62 (Cf d'))::ent a2 62 full):=by rw [hd']; exact H
      refine Av (Aj rfl rfl (B6 rfl E7 B2 rfl H at0 rfl (C3 _ (.agg _) rfl B4 B2 Eh rfl (by decide) (by decide) rfl rfl rfl H ?_)))
      rintro b43 w - H
      refine Cl (L:=[_]) rfl B4 B4 B2 L7 Eh rfl (by decide) rfl rfl H O rfl (by simp [Bm]) (by omega) ?_
      rintro a' c' full' w H O
      refine Az rfl rfl (Ab (A5 (Aa (Av (Ap rfl rfl rfl (by omega) (by omega) ?_)))))
      refine Ad rfl rfl (Ab (Aa ?_))
      refine ⟨⟨i+1,a',c',full'⟩,rfl,⟨rfl,rfl,trivial⟩,⟨by dsimp only; omega,?_,H.tail,fun j x hj hx=>?_⟩,by dsimp only; omega⟩
      ·dsimp only
       rw [S7 hd,← hd',List.flatMap_append]
       exact O
      ·rcases Nat.lt_or_ge j i with h7 | h7
       ·exact hb j x h7 hx
       ·obtain rfl:j=i:=by dsimp only at hj; omega
        rw [hd] at hx
        cases hx
        omega
    ·intro h3
     replace h3:=AG h3
     obtain rfl:i=ds.length:=by omega
     rw [List.take_length] at O
     have hal:ds.all (fun d=>decide (max d.fr d.to<rs.length))=true:=by
      rw [List.all_eq_true]
      intro d hd
      obtain ⟨j,hj⟩:=List.mem_iff_getElem?.1 hd
      exact decide_eq_true (hb j d (Cr hj) hj)
     have RO:Rd w a2 7 Cf (Ev 0 ds):=OS.rd O (fun y hy=>H.blk y hy) (fun _ _=>rfl) (by omega)
     have hbr:CD rs ds=decide (ofC (Ev 0 ds) (ds.length+1)=0):=by
      unfold CD
      rw [h1',hal,← htt,decide_eq_false h2]; rfl
     obtain ⟨cd,hcd⟩:∃ cd,cd=ofC (Ev 0 ds) (ds.length+1):=⟨_,rfl⟩
     rw [hbr,← hcd]
     refine Bc (Ak (Ak (AD (Aa (Af (Aj rfl rfl (Aj rfl rfl (AV rfl B4 rfl (DI rfl rfl Qx Gx (by omega) (by omega) ?_)))))))))
     refine Ey rfl rfl rfl (by omega) (by omega) ?_
     refine Am rfl Zf (WM a2 ds.length c2 (Ev 0 ds) (ds.length+1) _ RO (OC 0 ds) (by omega) (by omega) (fun d hd=>by have:=Xc 0 d hd; omega)) rfl ?_
     rintro v w ⟨p,rfl,hp1,hp2,hx52⟩
     obtain ⟨pp,rfl⟩:∃ pp,p = .pointer pp:=by by_cases hz:ofC (Ev 0 ds) (ds.length+1)=0; (obtain ⟨bd,_,_,e1,_⟩:=hp2 hz; exact ⟨_,e1⟩); exact ⟨none,hp1 hz⟩
     replace H:=H.call hx52
     rw [← hcd]
     refine B9 rfl rfl (A3 rfl rfl rfl (A3 rfl rfl rfl (AW rfl rfl (Ae rfl rfl (Ab (Aa (Af (Ad rfl rfl (Cu rfl rfl rfl (Ai rfl rfl ?_))))))))))
     refine Ab (Aa (A8 (AB (v:=(.bool _)) rfl rfl rfl ?_)))
     exact ⟨rfl,H.ext⟩
end Go.Proofs.YtapphbmlkdhnmaaGreat

/- A round's edges, one by one. -/
namespace Go.Proofs.YtapphbmlkdhnmaaGreat
open Go.GV
attribute [local irreducible] AL W Wq Wt

def Fu (d:Du):Ed:=⟨d.fr,d.to,d.am,-d.we⟩
def IP (rs:List Int):List Ed:=(List.range (2*rs.length)).map fun j=>if j % 2=0 then ⟨rs.length,(j / 2:Nat),rs.getD (j / 2) 0,0⟩ else ⟨(j / 2:Nat),rs.length,4503599627370496,0⟩
def BF (rs:List Int) (ds:List Du) (net:Bool):List Ed:=ds.map Fu++if net=true then [] else IP rs
theorem Ic {rs:List Int} {i:Nat} {x:Int} (h:rs[i]? = some x):(IP rs)[2*i]? = some ⟨rs.length,i,x,0⟩:=by
 have hl:=Cr h
 unfold IP
 rw [D3 (by omega),if_pos (by omega),show 2*i / 2=i by omega,Bn h]
theorem JF {rs:List Int} {i:Nat} (h:i<rs.length):(IP rs)[2*i+1]? = some ⟨i,rs.length,4503599627370496,0⟩:=by
 unfold IP
 rw [D3 (by omega),if_neg (by omega),show (2*i+1) / 2=i by omega]
theorem Mf (rs:List Int):(IP rs).length=2*rs.length:=by unfold IP; simp
def edV (e:Ed):List Value:=[.agg (Cw e).toArray]
structure RndK (b1 b2 b3:Nat) (a b:Option Addr) (n c m e:Nat) (rs:List Int) (ds:List Du) (net:Bool) (w:World):Prop where
 h1:w.heap[b1]? = some (Bl 23 [.slice b m e])
 h2:w.heap[b2]? = some (Bl 4 [.bool net])
 h3:w.heap[b3]? = some (Bl 29 [.slice a n c])
 R:Rd w a 1 I1 rs
 Rd':Rd w b 7 Cf ds
set_option maxRecDepth 20000 in
set_option maxHeartbeats 4000000 in
theorem S8 {b1 b2 b3:Nat} {a b:Option Addr} {n c m e:Nat} {rs:List Int} {ds:List Du} {net:Bool} (hn:rs.length=n) (hm:ds.length=m) (hn2:n≤1000000) (hm2:m≤1000000) (hw:∀ d∈ds,-1000000000≤d.we∧d.we≤1000000000) :
  Pf Tryz.prog 162 #[ptr b1,ptr b2,ptr b3] [] (fun _ w=>RndK b1 b2 b3 a b n c m e rs ds net w) ((BF rs ds net).map edV):=by
 subst hn hm
 intro l w J E hJ0 hJs hEs hK hY
 obtain ⟨M0,hJ0⟩:=hJ0
 obtain ⟨w0,rfl⟩:∃ w0,w0=w:=⟨_,rfl⟩
 have hat1:∀ (i:Nat) (d:Du),ds[i]? = some d→((BF rs ds net).map edV)[i]? = some (edV (Fu d)):=fun i d hd=>by
  unfold BF
  have hl:=Cr hd
  rw [List.getElem?_map,List.getElem?_append_left (by rw [List.length_map]; exact hl),List.getElem?_map,hd]; rfl
 have hat2:net=false→∀ (j:Nat) (x:Ed),(IP rs)[j]? = some x→((BF rs ds net).map edV)[ds.length+j]? = some (edV x):=fun h0 j x hx=>by
  unfold BF
  rw [h0,List.getElem?_map,List.getElem?_append_right (by rw [List.length_map]; omega),List.length_map,show ds.length+j - ds.length=j by omega]
  show ((IP rs)[j]?).map edV=_
  rw [hx]; rfl
 have hlen:((BF rs ds net).map edV).length=ds.length+if net=true then 0 else 2*rs.length:=by
  unfold BF
  rw [List.length_map,List.length_append,List.length_map]
  split
  ·rfl
  ·rw [Mf]
 refine A9 (fn:=Tryz.f162) Tryz.func162 rfl [.func (.yield l) #[] #[],.pointer (some ⟨b1,0,none⟩),.pointer (some ⟨b2,0,none⟩),.pointer (some ⟨b3,0,none⟩)] rfl (by kernel_rfl) ?_
 have K0:=(hK _ _ _ hJ0).2
 have H:=Ctx.start w0 []
 refine An (Af (Bb rfl Gw rfl ((by rw [Ay K0.h1]; rfl)) ?_))
 refine AV rfl B4 rfl (Ad rfl rfl (Ab (Aa (Au (Bf 1073737792 (α:=Nat) (fun i=>[(12,.int .i64 (i:Int))]) (fun i w'=>i≤ds.length∧∃ M,J i M w') (fun i=>ds.length - i) 0 rfl ?_ ?_ ?_)))))
 ·exact ⟨rfl,trivial⟩
 ·exact ⟨Nat.zero_le _,M0,hJ0⟩
 ·clear H
  rintro i j w ⟨hi,M,hJ⟩
  have KK:=(hK _ _ _ hJ).2
  have R:=KK.Rd'
  obtain ⟨w1,rfl⟩:∃ w1,w1=w:=⟨_,rfl⟩
  have H:=Ctx.start w1 []
  refine Af (AZ rfl rfl rfl (Ab (Aa (An (Aq _ rfl ?_ ?_)))))
  ·intro h1
   replace h1:=AF h1
   obtain ⟨d,hd⟩:=A0 (l:=ds) (i:=i) (by omega)
   have hwd:=hw d (List.mem_of_getElem? hd)
   refine Ao (Aa (An (Au (Af (AK R rfl B4 B2 rfl rfl (by omega) (by omega) (by rfl) ?_)))))
   refine Cv _ rfl E7 B2 rfl rfl ((R.ext0 H.ext).row hd rfl) ?_
   refine Bj rfl Eh H ?_
   rintro b6 w - H
   refine B5 rfl B2 rfl rfl rfl (by exact DM _) H at0 rfl ?_
   rintro w H
   refine Ab (Aa (Af (D0 rfl (.func _ _ _) rfl ?_)))
   refine Ah rfl E1 rfl (AN rfl BV rfl H at0 rfl (Ah rfl E3 rfl (AN rfl BV rfl H at0 rfl (Ah rfl Dp rfl (AN rfl Bt rfl H at0 rfl (Ah rfl J4 rfl (AN rfl Bt rfl H at0 rfl (GF rfl rfl (by omega) (by omega) ?_))))))))
   refine CE (Cw (Fu d)) rfl Oa Fd (by kernel_rfl) ?_
   have hY1:=hY i (edV (Fu d)) M _ (hat1 i d hd) (hJs _ _ _ _ hJ H.ext)
   refine Gd (vs:=edV (Fu d)) rfl rfl hY1 rfl ?_
   rintro u w hu
   obtain ⟨bb,rfl,hu1,hu0⟩:∃ bb,u = .bool bb∧(bb=true→∃ M,J (i+1) M w)∧(bb=false→E w):=hu.elim (fun h=>⟨true,h.1,fun _=>let ⟨M',h1,_⟩:=h.2; ⟨M',h1⟩,fun h=>by cases h⟩) (fun h=>⟨false,h.1,(fun h=>by cases h),fun _=>h.2⟩)
   refine B1 rfl rfl (Ab (Aa (Aq _ rfl ?_ ?_)))
   ·intro h2
    replace h2:=Bv h2
    refine A8 (A1 (Al (Al (A1 (Al (Fp rfl rfl ?_))))))
    exact .inr (hu0 (by simpa using h2))
   ·intro h2
    replace h2:=Bw h2
    refine Ao (A5 (Aa (Av (Ap rfl rfl rfl (by omega) (by omega) ?_))))
    refine Ad rfl rfl (Ab (Aa ?_))
    exact ⟨i+1,rfl,⟨rfl,trivial⟩,⟨by omega,hu1 (by simpa using h2)⟩,by omega⟩
  ·intro h1
   replace h1:=AG h1
   obtain rfl:i=ds.length:=by omega
   refine Bc (Ak (Ak (AD (Aa (An (Af (Bb rfl Jf rfl ((H.old0 (by rw [Ay KK.h2]; rfl))) ?_)))))))
   refine Ab (Aa (Aq _ rfl ?_ ?_))
   ·intro h2
    refine A8 (Al (Fp rfl rfl ?_))
    exact .inl ⟨M,by rw [hlen,if_pos h2]; exact hJ⟩
   ·intro h2
    refine Ao (Aa (Af (Bb rfl BX rfl ((H.old0 (by rw [Ay KK.h3]; rfl))) ?_)))
    refine AV rfl AO rfl (Ae rfl rfl (Ab (Aa (Af (Bb rfl BX rfl ((H.old0 (by rw [Ay KK.h3]; rfl))) ?_)))))
    refine AV rfl AO rfl (Ad rfl rfl (Ab (Aa (Au (Bf 72057559678190336 (α:=Nat) (fun i=>[(35,.int .i64 (i:Int))]) (fun i w'=>i≤rs.length∧∃ M,J (ds.length+2*i) M w') (fun i=>rs.length - i) 0 rfl ?_ ?_ ?_)))))
    ·exact ⟨rfl,trivial⟩
    ·exact ⟨Nat.zero_le _,M,hJ⟩
    ·clear H
     rintro i j2 w ⟨hi,M,hJ⟩
     have KK:=(hK _ _ _ hJ).2
     have R:=KK.R
     obtain ⟨w1,rfl⟩:∃ w1,w1=w:=⟨_,rfl⟩
     have H:=Ctx.start w1 []
     refine Af (AZ rfl rfl rfl (Ab (Aa (An (Aq _ rfl ?_ ?_)))))
     ·intro h3
      replace h3:=AF h3
      obtain ⟨x,hx⟩:=A0 (l:=rs) (i:=i) (by omega)
      refine Ao (Aa (An (Au (Af (Ad rfl rfl (AK R rfl AO Bu rfl rfl (by omega) (by omega) (by rfl) ?_))))))
      refine Bb rfl Bt rfl (((R.ext0 H.ext).fld hx rfl (j:=0) rfl)) ?_
      refine Ae rfl rfl (Ae rfl rfl (Ab (Aa (Af (D0 rfl (.func _ _ _) rfl ?_)))))
      refine Ad rfl rfl (Ad rfl rfl (Ad rfl rfl (CE (Cw ⟨rs.length,i,x,0⟩) rfl Oa Fd (by kernel_rfl) ?_)))
      have hY1:=hY _ (edV ⟨rs.length,i,x,0⟩) M _ (hat2 h2 _ _ (Ic hx)) (hJs _ _ _ _ hJ H.ext)
      refine Gd (vs:=edV ⟨rs.length,i,x,0⟩) rfl rfl hY1 rfl ?_
      rintro u w hu
      clear H
      obtain ⟨bb,rfl,hu1,hu0⟩:∃ bb,u = .bool bb∧(bb=true→∃ M,J (ds.length+2*i+1) M w)∧(bb=false→E w):=hu.elim (fun h=>⟨true,h.1,fun _=>let ⟨M',h1,_⟩:=h.2; ⟨M',h1⟩,fun h=>by cases h⟩) (fun h=>⟨false,h.1,(fun h=>by cases h),fun _=>h.2⟩)
      refine B1 rfl rfl (Aw rfl rfl (AE 47 rfl ?_ ?_))
      ·intro h4
       replace h4:=Bv h4
       refine Ag rfl (Ag rfl (Ag rfl (Ag rfl (Ag rfl (Ag rfl (AA rfl rfl (.bool _) rfl (Ab (Aa (Dj rfl (A8 (A1 (Al (Al (A1 (Fp rfl rfl ?_)))))))))))))))
       exact .inr (hu0 (by simpa using h4))
      ·intro h4
       replace h4:=Bw h4
       refine D0 rfl (.func _ _ _) rfl ?_
       refine Ad rfl rfl (Ad rfl rfl (CE (Cw ⟨i,rs.length,4503599627370496,0⟩) rfl Oa Fd (by kernel_rfl) ?_))
       obtain ⟨M2,hJ2⟩:∃ M,J (ds.length+2*i+1) M w:=hu1 (by simp_all)
       have hY2:=hY _ (edV ⟨i,rs.length,4503599627370496,0⟩) M2 _ (hat2 h2 _ _ (JF (by omega))) hJ2
       refine Gd (vs:=edV ⟨i,rs.length,4503599627370496,0⟩) rfl rfl hY2 rfl ?_
       rintro u w hu
       obtain ⟨bb,rfl,hv1,hv0⟩:∃ bb,u = .bool bb∧(bb=true→∃ M,J (ds.length+2*i+1+1) M w)∧(bb=false→E w):=hu.elim (fun h=>⟨true,h.1,fun _=>let ⟨M',h1,_⟩:=h.2; ⟨M',h1⟩,fun h=>by cases h⟩) (fun h=>⟨false,h.1,(fun h=>by cases h),fun _=>h.2⟩)
       refine B1 rfl rfl (A6 rfl rfl (.bool _) rfl (Ab (Aa (Aq _ rfl ?_ ?_))))
       ·intro h5
        replace h5:=Bv h5
        refine A8 (A1 (Al (Al (A1 (Fp rfl rfl ?_)))))
        exact .inr (hv0 (by simpa using h5))
       ·intro h5
        replace h5:=Bw h5
        refine Ao (A5 (Aa (Av (Ap rfl rfl rfl (by omega) (by omega) ?_))))
        refine Ad rfl rfl (Ab (Aa ?_))
        exact ⟨i+1,rfl,⟨rfl,trivial⟩,⟨by omega,by rw [show ds.length+2*(i+1)=ds.length+2*i+1+1 by omega]; exact hv1 (by simpa using h5)⟩,by omega⟩
     ·intro h3
      replace h3:=AG h3
      refine Bc (Ak (Ak (AD (Db rfl rfl ?_))))
      obtain rfl:i=rs.length:=by omega
      exact .inl ⟨M,by rw [hlen,if_neg (by rw [h2]; decide)]; exact hJ⟩
end Go.Proofs.YtapphbmlkdhnmaaGreat

/- Rounds: their edges; comparisons of edges and numbers. -/
namespace Go.Proofs.YtapphbmlkdhnmaaGreat
open Go.GV
attribute [local irreducible] AL W Wq Wt

abbrev U1 (x:Int):List Value:=[Hk x]
instance:DecidableEq Ed:=fun x y=>if h:x.f=y.f∧x.t=y.t∧x.cap=y.cap∧x.cost=y.cost then isTrue (by cases x; cases y; simp_all) else isFalse fun e=>h (by subst e; exact ⟨rfl,rfl,rfl,rfl⟩)
theorem QR (x y:Ed):decide (x=y)=true↔Cw x=Cw y:=by
 obtain ⟨a,b,c,d⟩:=x
 obtain ⟨a',b',c',d'⟩:=y
 simp [Cw]
set_option maxRecDepth 20000 in
theorem Ab3 (a b:Option Addr) (n c m d:Nat) (xs ys:List Ed) (w:World) (R:Rd w a 4 Cw xs) (hn:xs.length=n) (hn2:n≤1000000) (Ry:Rd w b 4 Cw ys) (hm:ys.length=m) (hm2:m≤1000000) :
  Ret Tryz.prog 136 #[.slice a n c,.slice b m d] w fun v w'=>v = .bool (decide (xs=ys))∧Ext [] w w':=by
 subst hn hm
 obtain ⟨w0,rfl⟩:∃ w0,w0=w:=⟨_,rfl⟩
 have H:=Ctx.start w0 []
 refine A9 (fn:=Tryz.f136) Tryz.func136 rfl [.slice a xs.length c,.slice b ys.length d] rfl (by kernel_rfl) ?_
 refine Af (Ai rfl rfl (Ab (Aa (An (Af (Aj rfl rfl (AV rfl C0 rfl (Aj rfl rfl (AV rfl C0 rfl (Cp rfl rfl rfl ?_))))))))))
 refine Ab (Aa (Aq _ rfl ?_ ?_))
 ·intro h1
  replace h1:=CY h1
  refine Af (Ai rfl rfl (Ab (Aa (A8 (Al (AB (v:=(.bool _)) rfl rfl rfl ?_))))))
  exact ⟨congrArg Value.bool (decide_eq_false fun h=>by rw [h] at h1; simp at h1).symm,H.ext⟩
 ·intro h1
  replace h1:=CZ h1
  have hle:xs.length=ys.length:=by omega
  refine Ao (Aa (An (Af (Aj rfl rfl (AV rfl C0 rfl (Ad rfl rfl (Ab (Aa (Au (Bf 67100720 (α:=Nat) (fun i=>[(13,.int .i64 (i:Int))]) (fun i w'=>i≤xs.length∧Ctx w0 [] w' []∧∀ (k:Nat) (x y:Ed),k<i→xs[k]? = some x→ys[k]? = some y→x=y) (fun i=>xs.length - i) 0 rfl ?_ ?_ ?_))))))))))
  ·exact ⟨rfl,trivial⟩
  ·exact ⟨Nat.zero_le _,H,fun k x y h=>absurd h (Nat.not_lt_zero _)⟩
  ·clear H
   rintro i j w ⟨hi,H,hb⟩
   refine Af (AZ rfl rfl rfl (Ab (Aa (An (Aq _ rfl ?_ ?_)))))
   ·intro h2
    replace h2:=AF h2
    obtain ⟨x,hx⟩:=A0 (l:=xs) (i:=i) (by omega)
    obtain ⟨y,hy⟩:=A0 (l:=ys) (i:=i) (by omega)
    refine Ao (Aa (An (Au (Af (Ad rfl rfl (Ae rfl rfl (Ab (Aa (DE (fun x=>x=_) B0 (by kernel_rfl) rfl ?_)))))))))
    refine Bx rfl rfl (AP rfl rfl (Bs R rfl C0 CC rfl rfl (by omega) (by omega) (by rfl) ?_))
    refine FM _ rfl Ho CC rfl rfl (by rintro _ rfl; exact ((R.ext0 H.drew.ext).row hx rfl)) ?_
    refine Bx rfl rfl (AP rfl rfl (Bs Ry rfl C0 CC rfl rfl (by omega) (by omega) (by rfl) ?_))
    refine FM _ rfl Ho CC rfl rfl (by rintro _ rfl; exact ((Ry.ext0 H.drew.ext).row hy rfl)) ?_
    refine Qq (ks:=[true,true,true,true]) (xs:=Cw x) (ys:=Cw y) (decide (x=y)) rfl (by kernel_rfl) rfl rfl ⟨rfl,rfl,rfl,rfl,trivial⟩ (QR x y) ?_
    refine BJ ?_
    rintro _ rfl
    replace H:=H.drew
    refine Aq _ rfl ?_ ?_
    ·intro h3
     refine Af (Ai rfl rfl (Ab (Aa (A8 (A1 (Al (Al (A1 (Al (AB (v:=(.bool _)) rfl rfl rfl ?_))))))))))
     have hne:¬ x=y:=by simpa using h3
     exact ⟨congrArg Value.bool (decide_eq_false fun h=>by subst h; rw [hx] at hy; injection hy with hy; exact hne hy).symm,H.ext⟩
    ·intro h3
     refine Ao (A5 (Aa (Av (Ap rfl rfl rfl (by omega) (by omega) ?_))))
     refine Ad rfl rfl (Ab (Aa ?_))
     have heq:x=y:=by simpa using h3
     refine ⟨i+1,rfl,⟨rfl,trivial⟩,⟨by omega,H,fun k x' y' hk hx' hy'=>?_⟩,by omega⟩
     rcases Nat.lt_or_ge k i with h7 | h7
     ·exact hb k x' y' h7 hx' hy'
     ·obtain rfl:k=i:=by omega
      rw [hx] at hx'; rw [hy] at hy'
      cases hx'; cases hy'
      exact heq
   ·intro h2
    replace h2:=AG h2
    refine Bc (Ak (Ak (AD (Aa (Af (Ai rfl rfl (Ab (Aa (A8 (AB (v:=(.bool _)) rfl rfl rfl ?_))))))))))
    obtain rfl:i=xs.length:=by omega
    exact ⟨congrArg Value.bool (decide_eq_true (JC hle hb)).symm,H.ext⟩
set_option maxRecDepth 20000 in
theorem Ab4 (a b:Option Addr) (n c m d:Nat) (xs ys:List Int) (w:World) (R:Rd w a 1 U1 xs) (hn:xs.length=n) (hn2:n≤1000000) (Ry:Rd w b 1 U1 ys) (hm:ys.length=m) (hm2:m≤1000000) :
  Ret Tryz.prog 137 #[.slice a n c,.slice b m d] w fun v w'=>v = .bool (decide (xs=ys))∧Ext [] w w':=by
 subst hn hm
 obtain ⟨w0,rfl⟩:∃ w0,w0=w:=⟨_,rfl⟩
 have H:=Ctx.start w0 []
 refine A9 (fn:=Tryz.f137) Tryz.func137 rfl [.slice a xs.length c,.slice b ys.length d] rfl (by kernel_rfl) ?_
 refine Af (Ai rfl rfl (Ab (Aa (An (Af (Aj rfl rfl (AV rfl Bz rfl (Aj rfl rfl (AV rfl Bz rfl (Cp rfl rfl rfl ?_))))))))))
 refine Ab (Aa (Aq _ rfl ?_ ?_))
 ·intro h1
  replace h1:=CY h1
  refine Af (Ai rfl rfl (Ab (Aa (A8 (Al (AB (v:=(.bool _)) rfl rfl rfl ?_))))))
  exact ⟨congrArg Value.bool (decide_eq_false fun h=>by rw [h] at h1; simp at h1).symm,H.ext⟩
 ·intro h1
  replace h1:=CZ h1
  have hle:xs.length=ys.length:=by omega
  refine Ao (Aa (An (Af (Aj rfl rfl (AV rfl Bz rfl (Ad rfl rfl (Ab (Aa (Au (Bf 67100720 (α:=Nat) (fun i=>[(13,.int .i64 (i:Int))]) (fun i w'=>i≤xs.length∧Ctx w0 [] w' []∧∀ (k:Nat) (x y:Int),k<i→xs[k]? = some x→ys[k]? = some y→x=y) (fun i=>xs.length - i) 0 rfl ?_ ?_ ?_))))))))))
  ·exact ⟨rfl,trivial⟩
  ·exact ⟨Nat.zero_le _,H,fun k x y h=>absurd h (Nat.not_lt_zero _)⟩
  ·clear H
   rintro i j w ⟨hi,H,hb⟩
   refine Af (AZ rfl rfl rfl (Ab (Aa (An (Aq _ rfl ?_ ?_)))))
   ·intro h2
    replace h2:=AF h2
    obtain ⟨x,hx⟩:=A0 (l:=xs) (i:=i) (by omega)
    obtain ⟨y,hy⟩:=A0 (l:=ys) (i:=i) (by omega)
    refine Ao (Aa (An (Au (Af (Ad rfl rfl (Ae rfl rfl (Ab (Aa (DE (fun x=>x=_) B0 (by kernel_rfl) rfl ?_)))))))))
    refine Bx rfl rfl (AP rfl rfl (Bs R rfl Bz Bo rfl rfl (by omega) (by omega) (by rfl) ?_))
    refine BR rfl BK rfl (by rintro _ rfl; exact (((R.ext0 H.drew.ext).fld hx rfl (j:=0) rfl))) ?_
    refine Bx rfl rfl (AP rfl rfl (Bs Ry rfl Bz Bo rfl rfl (by omega) (by omega) (by rfl) ?_))
    refine BR rfl BK rfl (by rintro _ rfl; exact (((Ry.ext0 H.drew.ext).fld hy rfl (j:=0) rfl))) ?_
    refine Ti rfl rfl rfl (BJ ?_)
    rintro _ rfl
    replace H:=H.drew
    refine Aq _ rfl ?_ ?_
    ·intro h3
     replace h3:=CY h3
     refine Af (Ai rfl rfl (Ab (Aa (A8 (A1 (Al (Al (A1 (Al (AB (v:=(.bool _)) rfl rfl rfl ?_))))))))))
     have hne:¬ x=y:=h3
     exact ⟨congrArg Value.bool (decide_eq_false fun h=>by subst h; rw [hx] at hy; injection hy with hy; exact hne hy).symm,H.ext⟩
    ·intro h3
     replace h3:=CZ h3
     refine Ao (A5 (Aa (Av (Ap rfl rfl rfl (by omega) (by omega) ?_))))
     refine Ad rfl rfl (Ab (Aa ?_))
     have heq:x=y:=by omega
     refine ⟨i+1,rfl,⟨rfl,trivial⟩,⟨by omega,H,fun k x' y' hk hx' hy'=>?_⟩,by omega⟩
     rcases Nat.lt_or_ge k i with h7 | h7
     ·exact hb k x' y' h7 hx' hy'
     ·obtain rfl:k=i:=by omega
      rw [hx] at hx'; rw [hy] at hy'
      cases hx'; cases hy'
      exact heq
   ·intro h2
    replace h2:=AG h2
    refine Bc (Ak (Ak (AD (Aa (Af (Ai rfl rfl (Ab (Aa (A8 (AB (v:=(.bool _)) rfl rfl rfl ?_))))))))))
    obtain rfl:i=xs.length:=by omega
    exact ⟨congrArg Value.bool (decide_eq_true (JC hle hb)).symm,H.ext⟩
theorem UT (a b:Option Addr) (n c m d:Nat) (net:Bool) (w:World):Ret Tryz.prog 116 #[.slice a n c,.slice b m d,.bool net] w fun v w'=>∃ b1 b2 b3,v = .func (.func 162) #[] #[ptr b1,ptr b2,ptr b3]∧Ctx w [] w' [(b2,Bl 4 [.bool net]),(b1,Bl 23 [.slice b m d]),(b3,Bl 29 [.slice a n c])]:=by
 obtain ⟨w0,rfl⟩:∃ w0,w0=w:=⟨_,rfl⟩
 have H:=Ctx.start w0 []
 refine A9 (fn:=Tryz.f116) Tryz.func116 rfl [.slice a n c,.slice b m d,.bool net] rfl (by kernel_rfl) ?_
 refine Af (BC rfl _ (.slice _ _ _) rfl rfl H ?_)
 rintro b3 w - H
 refine BC rfl _ (.slice _ _ _) rfl rfl H ?_
 rintro b4 w - H
 refine BC rfl _ (.bool _) rfl rfl H ?_
 rintro b5 w - H
 refine Df rfl .nilFunc rfl ?_
 refine Ab (Aa (Af (Dn rfl [.pointer _,.pointer _,.pointer _] rfl (Df rfl (.func _ _ _) rfl ?_))))
 refine Ab (Aa (A8 (AB (v:=(.func _ _ _)) rfl rfl rfl ?_)))
 exact ⟨_,_,_,rfl,H⟩
end Go.Proofs.YtapphbmlkdhnmaaGreat

/- Dues that are open, as the reference has them. -/
namespace Go.Proofs.YtapphbmlkdhnmaaGreat
open Go.GV
attribute [local irreducible] AL W Wq Wt

set_option maxRecDepth 20000 in
set_option maxHeartbeats 2000000 in
theorem Nj (a:Option Addr) (n c:Nat) (ds:List Du) (w:World) (R:Rd w a 7 Cf ds) (hn:ds.length=n) (hm:n≤1000000) :
  Ret Tryz.prog 49 #[.slice a n c] w fun v w'=>Fresh w w' 62 7 v ((opn ds).flatMap Cf):=by
 subst hn
 obtain ⟨w0,rfl⟩:∃ w0,w0=w:=⟨_,rfl⟩
 have H:=Ctx.start w0 []
 refine A9 (fn:=Tryz.f49) Tryz.func49 rfl [.slice a ds.length c] rfl (by kernel_rfl) ?_
 refine Af (Az rfl rfl (Ab (Aa (Af (Az rfl rfl (Ab (Aa (An (Af (Ae rfl rfl (Ab (Aa ?_))))))))))))
 refine Au (Bf 16777208 (α:=LSt) (fun t=>[(3,.slice t.a (opn (ds.take t.i)).length t.c),(4,.int .i64 (t.i:Int))]) (fun t w'=>t.i≤ds.length∧OS t.a (opn (ds.take t.i)).length t.c 7 t.full ((opn (ds.take t.i)).flatMap Cf)∧Ctx w0 [] w' (ent t.a 62 t.full)) (fun t=>ds.length - t.i) ⟨0,none,0,[]⟩ rfl ?_ ?_ ?_)
 ·exact ⟨rfl,rfl,trivial⟩
 ·exact ⟨Nat.zero_le _,OS.nil,H⟩
 ·clear H
  rintro ⟨i,a2,c2,full⟩ j w ⟨hi,O,H⟩; dsimp only at hi O H; dsimp only
  have hol:(opn (ds.take i)).length≤i:=Nat.le_trans (List.length_filter_le _ _) (by rw [List.length_take]; omega)
  refine An (Af (Ad rfl rfl (Aj rfl rfl (AV rfl B4 rfl (AZ rfl rfl rfl (Ab (Aa (Aq _ rfl ?_ ?_))))))))
  ·intro h1
   replace h1:=AF h1
   obtain ⟨d,hd⟩:=A0 (l:=ds) (i:=i) (by omega)
   have hos:opn (ds.take (i+1))=opn (ds.take i)++if d.held=true then [] else [d]:=by
    rw [List.take_add_one,hd]; exact KL _ _
   refine Ao (Aa (An (Au (Af (Aj rfl rfl (Ad rfl rfl (AK R rfl B4 B2 rfl rfl (by omega) (by omega) (by rfl) ?_)))))))
   refine Ah rfl Iy rfl (Bb rfl Jf rfl (((R.ext0 H.ext).fld hd rfl (j:=6) rfl)) ?_)
   refine B1 rfl rfl (Ab (Aa (Aq _ rfl ?_ ?_)))
   ·intro h2
    replace h2:=Bv h2
    have h2':¬ d.held=true:=by simpa using h2
    rw [if_neg h2'] at hos
    refine Av (Aj rfl rfl (Aj rfl rfl (Ad rfl rfl (AK R rfl B4 B2 rfl rfl (by omega) (by omega) (by rfl) ?_))))
    refine Cv _ rfl E7 B2 rfl rfl ((R.ext0 H.ext).row hd rfl) ?_
    refine C3 _ (.agg _) rfl B4 B2 Eh rfl (by decide) (by decide) rfl rfl rfl H ?_
    rintro b22 w - H
    refine Cl (L:=[]) rfl B4 B4 B2 L7 Eh rfl (by decide) rfl rfl H O rfl (by simp [Bm]) (by omega) ?_
    rintro a' c' full' w H O
    refine Az rfl rfl (Ab (A5 (Aa (Av (Ad rfl rfl (Ap rfl rfl rfl (by omega) (by omega) ?_))))))
    refine Ae rfl rfl (Ab (Aa ?_))
    exact ⟨⟨i+1,a',c',full'⟩,rfl,⟨by dsimp only; rw [hos,List.length_append]; rfl,rfl,trivial⟩,⟨by dsimp only; omega,by dsimp only; rw [hos,List.length_append,List.flatMap_append]; exact O,H⟩,by dsimp only; omega⟩
   ·intro h2
    replace h2:=Bw h2
    have h2':d.held=true:=by simpa using h2
    rw [if_pos h2',List.append_nil] at hos
    refine Ao (A5 (Aa (Av (Ad rfl rfl (Ap rfl rfl rfl (by omega) (by omega) ?_)))))
    refine Ae rfl rfl (Ab (Aa ?_))
    exact ⟨⟨i+1,a2,c2,full⟩,rfl,⟨by dsimp only; rw [hos]; rfl,rfl,trivial⟩,⟨by dsimp only; omega,by dsimp only; rw [hos]; exact O,H⟩,by dsimp only; omega⟩
  ·intro h1
   replace h1:=AG h1
   refine Bc (Ak (Ak (AD (Aa (Af (Aj rfl rfl (Az rfl rfl (Ab (Aa (A8 (AB (v:=(.slice _ _ _)) rfl rfl rfl ?_)))))))))))
   obtain rfl:i=ds.length:=by omega
   rw [List.take_length] at O ⊢
   exact Ctx.fresh (L:=[]) H O
end Go.Proofs.YtapphbmlkdhnmaaGreat

/- What a round pays. -/
namespace Go.Proofs.YtapphbmlkdhnmaaGreat
open Go.GV
attribute [local irreducible] AL W Wq Wt

theorem Xd (l:List Int):∀ v∈l.map FJ,Bm v=true:=fun v hv=>by
 obtain ⟨x,_,rfl⟩:=List.mem_map.1 hv; rfl
theorem UU (a:Option Addr) (n c:Nat) (xs:List Int) (w:World) (R:Rd w a 1 I1 xs) (hn:xs.length=n) (hm:n≤1000000000) :
  Ret Tryz.prog 106 #[.slice a n c] w fun v w'=>Fresh w w' 2 1 v (xs.map FJ):=by
 subst hn
 obtain ⟨w0,rfl⟩:∃ w0,w0=w:=⟨_,rfl⟩
 have H:=Ctx.start w0 []
 refine A9 (fn:=Tryz.f106) Tryz.func106 rfl [.slice a xs.length c] rfl (by kernel_rfl) ?_
 refine Af (Az rfl rfl (Ab (Aa (An (Af (Aj rfl rfl (KX rfl AO rfl (Ab (Aa (Aq _ rfl ?_ ?_))))))))))
 ·intro h1
  have ha:a=none:=by simpa using h1
  subst ha
  have hxs:xs=[]:=by
   cases xs with
   | nil=>rfl
   | cons x xs=>obtain ⟨b,o,h⟩:=R.some' (by simp); cases h
  subst hxs
  refine Af (Az rfl rfl (Ab (Aa (A8 (Al (AB (v:=(.slice _ _ _)) rfl rfl rfl ?_))))))
  exact Fresh.nil H _ _
 ·intro h1
  refine Ao (Aa (Af (Jz rfl AO Bu H ?_)))
  rintro b5 w H O
  refine Aj rfl rfl (Fz rfl AO AO Bu HN Fa rfl (by decide) (xs.map FJ) rfl rfl H O (by simp) (Xd xs) (Rd.app1 (f:=FJ) (R.ext0 H.ext)) (by omega) ?_)
  rintro a7 c7 full7 w H O
  refine Az rfl rfl (Ab (Aa (A8 (AB (v:=(.slice _ _ _)) rfl rfl rfl ?_))))
  exact H.fresh O
/-- How many are paid. -/
def SA (k:Int) (n:Nat):Nat:=(max 0 (min k (n:Int))).toNat
theorem Y6 (N:Int) (a b:Option Addr) (n c m d:Nat) (k:Int) (fl:List Int) (w:World) (R:Rd w b 1 I1 fl) (hm:fl.length=m) (hd:m≤d) (hm2:m≤1000000) :
  Ret Tryz.prog 70 #[CS N a n c,.slice b m d,.int .i64 k] w fun v w'=>Fresh w w' 2 1 v ((fl.take (SA k m)).map FJ):=by
 subst hm
 obtain ⟨w0,rfl⟩:∃ w0,w0=w:=⟨_,rfl⟩
 have H:=Ctx.start w0 []
 have hk:SA k fl.length≤fl.length:=by unfold SA; omega
 refine A9 (fn:=Tryz.f70) Tryz.func70 rfl [CS N a n c,.slice b fl.length d,.int .i64 k] rfl (by kernel_rfl) ?_
 refine Af (BC rfl [.int .i64 N,.slice a n c] (.agg _) rfl rfl H ?_)
 rintro b3 w - H
 refine Az rfl rfl (Ab (Aa (Af (Aj rfl rfl (Ad rfl rfl (Aj rfl rfl (AV rfl AO rfl (XH rfl rfl rfl ?_))))))))
 refine Jy rfl rfl rfl ?_
 refine Hn rfl AO Bu rfl rfl (by omega) (by omega) ?_
 refine Am rfl Z5 (UU b (SA k fl.length) d (fl.take (SA k fl.length)) _ ((R.ext0 H.ext).take _) (by rw [List.length_take]; omega) (by omega)) rfl ?_
 rintro v w F
 obtain ⟨a9,n9,c9,f9,rfl,O9,hb9⟩:=F.ex
 refine Az rfl rfl (Ab (Aa (A8 (AB (v:=(.slice _ _ _)) rfl rfl rfl ?_))))
 exact ⟨⟨a9,n9,c9,f9,rfl,O9,fun x hx=>⟨(hb9 x hx).1,Nat.le_trans H.size (hb9 x hx).2⟩⟩,H.ext.trans F.ext⟩
end Go.Proofs.YtapphbmlkdhnmaaGreat

/- Dues and accounts, looked up. -/
namespace Go.Proofs.YtapphbmlkdhnmaaGreat
open Go.GV
attribute [local irreducible] AL W Wq Wt

section
variable {P:Program} {r:Option Nat} {ops rest:List Oper} {Q:Exit→Env→World→Prop} {e:Env} {w:World} {dst:Option Tmp} {ty:TypeId} {pos:String} {af:Array Edge} {g:Option (Nat × Bool)}
/-- A look into a map that is read alone. -/
theorem PB {t k el:TypeId} {kk:IntKind} {x y:Operand} {b:Nat} {o:Obj} {m:List (Int × Value)} {n:Int} {z:Value} (hg:AX ⟨dst,.lookup t x y true,ty,pos,af,g⟩ ops e=true)
  (ht:Kr P t=some (k,el)) (hk:P.underlying k=some (.int kk)) (hz:(P.info? el).bind (·.zero)=some z) (hx:ev e x = .map (some b)) (hy:ev e y = .int kk n) (hb:w.heap[b]? = some o) (hM:D8 kk m o)
  (h:AL P r ops Q rest (put e dst (.tuple #[(Ei m n).getD z,.bool (Ei m n).isSome])) w):AL P r ops Q (⟨dst,.lookup t x y true,ty,pos,af,g⟩::rest) e w:=by
 have H:Ctx w [b] w [(b,o)]:=Ctx.start1 hb
 exact Ja hg ht hk hz hx hy H at0 hM h
end
/-- The due of a number, and whether there is one. -/
def LJ (ds:List Du) (k:Int):Du:=(DC ds k).getD d00
set_option maxRecDepth 20000 in
set_option maxHeartbeats 2000000 in
theorem TP {bd b:Nat} {nx k:Int} {o:Obj} {ds:List Du} (w:World) (hd:w.heap[bd]? = some (Bl 123 (DU b nx))) (hb:w.heap[b]? = some o) (hM:D8 .u64 (dm ds) o) :
  Ret Tryz.prog 54 #[ptr bd,.int .u64 k] w fun v w'=>v = .tuple #[Gv (LJ ds k),.bool (DC ds k).isSome]∧Ext [] w w':=by
 obtain ⟨w0,rfl⟩:∃ w0,w0=w:=⟨_,rfl⟩
 have H:=Ctx.start w0 []
 have hmg:(Ei (dm ds) k).getD (Gv d00)=Gv (LJ ds k):=by
  rw [JE]
  unfold LJ
  cases DC ds k <;> rfl
 have hms:(Ei (dm ds) k).isSome=(DC ds k).isSome:=by
  rw [JE]
  cases DC ds k <;> rfl
 refine A9 (fn:=Tryz.f54) Tryz.func54 rfl [.pointer (some ⟨bd,0,none⟩),.int .u64 k] rfl (by kernel_rfl) ?_
 refine Af (Bj rfl Eh H ?_)
 rintro b4 w - H
 refine Ai rfl rfl (Ab (Aa (An (Af (A2 rfl rfl (CK rfl K8 rfl ?_))))))
 refine Ab (Aa (Aq _ rfl ?_ ?_))
 ·intro h0
  cases h0
 ·intro h0
  refine Ao (Aa (Af (A2 rfl rfl (AJ rfl rfl (Ah rfl EQ rfl (Bb rfl Gq rfl ((H.old0 (by rw [Ay hd]; rfl))) ?_))))))
  refine Ad rfl rfl (PB (z:=Gv d00) rfl GN Gx Qy rfl rfl (H.ext.to hb (by simp)) hM ?_)
  rw [hmg,hms]
  refine B9 rfl rfl (A3 rfl rfl rfl (A3 rfl rfl rfl (Bj rfl Eh H ?_)))
  rintro b6 w - H
  refine B5 rfl B2 rfl rfl rfl (by exact DM (LJ ds k)) H at0 rfl ?_
  rintro w H
  refine Ai rfl rfl (Ab (Aa (Af (B6 rfl E7 B2 rfl H at0 rfl (Aw rfl rfl (B5 rfl B2 rfl rfl rfl (by exact DM (LJ ds k)) H at1 rfl ?_))))))
  rintro w H
  refine Ai rfl rfl (Ab (Aa (A8 (Kv rfl rfl rfl E7 B2 H at1 rfl (show _=(.bool _) from rfl) ?_))))
  exact ⟨rfl,H.ext⟩
theorem Y7 (w:World):Ret Tryz.prog 51 #[] w fun v w'=>∃ bd b o,v=ptr bd∧D8 .u64 (dm []) o∧Ctx w [] w' [(bd,Bl 123 (DU b 1)),(b,o)]:=by
 obtain ⟨w0,rfl⟩:∃ w0,w0=w:=⟨_,rfl⟩
 have H:=Ctx.start w0 []
 refine A9 (fn:=Tryz.f51) Tryz.func51 rfl [] rfl (by kernel_rfl) ?_
 refine Af (AW rfl rfl (Ab (Aa (Af (Mz .u64 rfl H ?_)))))
 rintro b o w hM H
 refine CE (DU b 1) rfl VS Wa (by kernel_rfl) ?_
 refine BC rfl (DU b 1) (.agg _) rfl rfl H ?_
 rintro b3 w - H
 refine AW rfl rfl (Ab (Aa (A8 (AB (v:=(.pointer _)) rfl rfl rfl ?_))))
 exact ⟨b3,b,o,rfl,hM,H⟩
end Go.Proofs.YtapphbmlkdhnmaaGreat

/- May a round be built, as the reference has it. -/
namespace Go.Proofs.YtapphbmlkdhnmaaGreat
open Go.GV
attribute [local irreducible] AL W Wq Wt

def LP (n:Nat) (d:Du):Bool:=DS d && (decide (d.fr<n) && decide (d.to<n))
def UV (rs:List Int) (ds:List Du):Bool:=(decide (rs.length≤16) && decide (ds.length≤64)) && (rs.all Di && (ds.all (LP rs.length) && decide ((Fg (ds.map Du.am)).2=0)))
theorem Xe (ds:List Du):∀ i,(Ev i ds).map Du.am=ds.map Du.am:=by
 induction ds with
 | nil=>intro i; rfl
 | cons d ds ih=>intro i; show d.am::(Ev (i+1) ds).map Du.am=d.am::ds.map Du.am; rw [ih]
theorem Xf (rs:List Int):decide ((Fg rs).2=1) = !rs.all Di:=by
 unfold Fg
 cases h:rs.all Di with
 | false=>rw [if_pos rfl]; rfl
 | true =>
  rw [if_neg (by decide)]
  split <;> rfl
theorem Xg (rs:List Int) (ds:List Du) (hl:ds.length≤1000000):UV rs ds=CD rs ds:=by
 have h1:decide (ofC (Ev 0 ds) (ds.length+1)=0)=(decide (ds.length≤64) && (ds.all DS && decide ((Fg (ds.map Du.am)).2=0))):=by
  have ha:=UQ (ds:=ds) 0
  rw [show (((0:Nat):Int)+ds.length+1)=(ds.length:Int)+1 by omega] at ha
  have ham:(Ev 0 ds).map (·.am)=ds.map Du.am:=Xe ds 0
  unfold ofC
  rw [OC,ham,show Fb ((ds.length:Int)+1) 0 (Ev 0 ds)=ds.all DS from ha]
  by_cases h64:64<ds.length
  ·rw [if_pos h64,decide_eq_false (show ¬ ds.length≤64 by omega)]; rfl
  ·rw [if_neg h64,decide_eq_true (show ds.length≤64 by omega),Bool.true_and,if_neg (by rw [decide_eq_true (show 1≤(ds.length:Int)+1 by omega),decide_eq_true (show (ds.length:Int)+1≤4611686018427387904 by omega)]; decide)]
   cases hm:ds.all DS with
   | false=>rw [if_pos rfl]; rfl
   | true=>rw [if_neg (by decide),Bool.true_and]
 have h2:ds.all (LP rs.length)=(ds.all (fun d=>decide (max d.fr d.to<rs.length)) && ds.all DS):=by
  rw [Bool.eq_iff_iff]
  simp only [Bool.and_eq_true,List.all_eq_true,decide_eq_true_eq,LP]
  constructor
  ·intro h
   exact ⟨fun d hd=>by have:=h d hd; omega,fun d hd=>(h d hd).1⟩
  ·intro h d hd
   have:=h.1 d hd
   exact ⟨h.2 d hd,by omega,by omega⟩
 unfold UV CD
 rw [h1,h2,Xf]
 cases decide (rs.length≤16) <;> cases decide (ds.length≤64) <;> cases rs.all Di <;> cases ds.all (fun d=>decide (max d.fr d.to<rs.length)) <;> cases ds.all DS <;> rfl
set_option maxRecDepth 20000 in
set_option maxHeartbeats 4000000 in
theorem LK (a b:Option Addr) (n c m e:Nat) (rs:List Int) (ds:List Du) (w:World) (R:Rd w a 1 I1 rs) (hn:rs.length=n) (hn2:n≤1000000) (Rd':Rd w b 7 Cf ds) (hm:ds.length=m) (hm2:m≤1000000) :
  Ret Tryz.prog 25 #[.slice a n c,.slice b m e] w fun v w'=>v = .bool (CD rs ds)∧Ext [] w w':=by
 rw [← Xg rs ds (by omega)]
 subst hn hm
 obtain ⟨w0,rfl⟩:∃ w0,w0=w:=⟨_,rfl⟩
 have H:=Ctx.start w0 []
 obtain ⟨tt,htt⟩:∃ tt,tt=Fg (ds.map Du.am):=⟨_,rfl⟩
 refine A9 (fn:=Tryz.f25) Tryz.func25 rfl [.slice a rs.length c,.slice b ds.length e] rfl (by kernel_rfl) ?_
 refine Af (Ai rfl rfl (Ab (Aa (An (Af (BD (α:=Unit) 261120 (fun _=>[(17,.bool (!(decide (rs.length≤16) && decide (ds.length≤64))))]) (fun _ w'=>Ctx w0 [] w' []) rfl ?_ ?_))))))
 ·refine Aj rfl rfl (AV rfl AO rfl (Ck rfl rfl rfl (Aw rfl rfl (AE 13 rfl ?_ ?_))))
  ·intro h1
   replace h1:=AF h1
   refine Ag rfl (Ag rfl (Ag rfl (AA rfl rfl (.bool _) rfl (Ab ?_))))
   exact ⟨rfl,(),rfl,⟨congrArg Value.bool (by rw [Bool.eq_iff_iff]; simp_all; try omega),trivial⟩,H⟩
  ·intro h2
   replace h2:=AG h2
   refine Aj rfl rfl (AV rfl B4 rfl (Ck rfl rfl rfl (A6 rfl rfl (.bool _) rfl (Ab ?_))))
   exact ⟨rfl,(),rfl,⟨congrArg Value.bool (by rw [Bool.eq_iff_iff]; simp_all; try omega),trivial⟩,H⟩
 rintro - j17 w H
 refine Aq _ rfl ?_ ?_
 ·intro h1
  replace h1:=Bv h1
  refine Af (Ai rfl rfl (Ab (Aa (A8 (Al (AB (v:=(.bool _)) rfl rfl rfl ?_))))))
  exact ⟨congrArg Value.bool (by unfold UV; rw [show (decide (rs.length≤16) && decide (ds.length≤64))=false by simpa using h1]; rfl),H.ext⟩
 ·intro h1
  replace h1:=Bw h1
  have h1':(decide (rs.length≤16) && decide (ds.length≤64))=true:=by simpa using h1
  have hB:UV rs ds=(rs.all Di && (ds.all (LP rs.length) && decide (tt.2=0))):=by unfold UV; rw [h1',htt]; rfl
  rw [hB]
  refine Ao (Aa (Af (Az rfl rfl (Ab (Aa (An (Af (Ae rfl rfl (Ab (Aa (Au (Bf 1073479760 (α:=Nat) (fun i=>[(6,.int .i64 (i:Int))]) (fun i w'=>i≤rs.length∧Ctx w0 [] w' []∧∀ (k:Nat) (x:Int),k<i→rs[k]? = some x→Di x=true) (fun i=>rs.length - i) 0 rfl ?_ ?_ ?_))))))))))))
  ·exact ⟨rfl,trivial⟩
  ·exact ⟨Nat.zero_le _,H,fun k x h=>absurd h (Nat.not_lt_zero _)⟩
  ·clear H
   rintro i j w ⟨hi,H,hb⟩
   refine An (Af (Ad rfl rfl (Aj rfl rfl (AV rfl AO rfl (AZ rfl rfl rfl (Ab (Aa (Aq _ rfl ?_ ?_))))))))
   ·intro h2
    replace h2:=AF h2
    obtain ⟨x,hx⟩:=A0 (l:=rs) (i:=i) (by omega)
    refine Ao (Aa (An (Au (Af (Aj rfl rfl (Ad rfl rfl (AK R rfl AO Bu rfl rfl (by omega) (by omega) (by rfl) ?_)))))))
    refine Bb rfl Bt rfl (((R.ext0 H.ext).fld hx rfl (j:=0) rfl)) ?_
    refine Am rfl NZ (G9 x _) rfl ?_
    rintro v w ⟨rfl,rfl⟩
    refine B1 rfl rfl (Ab (Aa (Aq _ rfl ?_ ?_)))
    ·intro h3
     replace h3:=Bv h3
     refine Af (Ai rfl rfl (Ab (Aa (A8 (A1 (Al (Al (A1 (Al (AB (v:=(.bool _)) rfl rfl rfl ?_))))))))))
     exact ⟨congrArg Value.bool (by rw [C9 hx (show Di x=false by simpa using h3)]; rfl),H.ext⟩
    ·intro h3
     replace h3:=Bw h3
     refine Ao (A5 (Aa (Av (Ad rfl rfl (Ap rfl rfl rfl (by omega) (by omega) ?_)))))
     refine Ae rfl rfl (Ab (Aa ?_))
     exact ⟨i+1,rfl,⟨rfl,trivial⟩,⟨by omega,H,Hb hx hb (by simpa using h3)⟩,by omega⟩
   ·intro h2
    replace h2:=AG h2
    obtain rfl:i=rs.length:=by omega
    have hal:rs.all Di=true:=CV fun k x hk hx=>hb k x hk hx
    rw [hal,Bool.true_and]
    refine Bc (Ak (Ak (AD (Aa (An (Af (Ae rfl rfl (Ab (Aa (Au (Bf 1180591620716337561776 (α:=LSt) (fun t=>[(5,.slice t.a t.i t.c),(7,.int .i64 (t.i:Int))]) (fun t w'=>t.i≤ds.length∧OS t.a t.i t.c 1 t.full (((ds.take t.i).map Du.am).map FJ)∧Ctx w0 [] w' (ent t.a 2 t.full)∧∀ (k:Nat) (d:Du),k<t.i→ds[k]? = some d→LP rs.length d=true) (fun t=>ds.length - t.i) ⟨0,none,0,[]⟩ rfl ?_ ?_ ?_)))))))))))
    ·exact ⟨rfl,rfl,trivial⟩
    ·exact ⟨Nat.zero_le _,OS.nil,H,fun k x h=>absurd h (Nat.not_lt_zero _)⟩
    ·clear H
     rintro ⟨i,a2,c2,full⟩ jj w ⟨hi,O,H,hdb⟩; dsimp only at hi O H hdb; dsimp only
     refine An (Af (Ad rfl rfl (Aj rfl rfl (AV rfl B4 rfl (AZ rfl rfl rfl (Ab (Aa (Aq _ rfl ?_ ?_))))))))
     ·intro h3
      replace h3:=AF h3
      obtain ⟨d,hd⟩:=A0 (l:=ds) (i:=i) (by omega)
      refine Ao (Aa (An (Au (An (Af (BD (α:=Unit) 4611685949707911168 (fun _=>[(61,.bool (!LP rs.length d))]) (fun _ w'=>Ctx w0 [] w' (ent a2 2 full)) rfl ?_ ?_))))))
      ·refine Aj rfl rfl (Ad rfl rfl (AK Rd' rfl B4 B2 rfl rfl (by omega) (by omega) (by rfl) ?_))
       refine Cv _ rfl E7 B2 rfl rfl ((Rd'.ext0 H.ext).row hd rfl) ?_
       refine Am rfl Zh (O6 d _) rfl ?_
       rintro v w ⟨rfl,hx40⟩
       replace H:=H.call hx40
       refine B1 rfl rfl (Aw rfl rfl (AE 42 rfl ?_ ?_))
       ·intro h3
        replace h3:=Bv h3
        refine Ag rfl (Ag rfl (Ag rfl (Ag rfl (Ag rfl (Ag rfl (Ag rfl (Ag rfl (AA rfl rfl (.bool _) rfl (Aw rfl rfl ?_)))))))))
        refine Ag rfl (Ag rfl (Ag rfl (Ag rfl (Ag rfl (Ag rfl (Ag rfl (Ag rfl (AA rfl rfl (.bool _) rfl (Ab ?_)))))))))
        exact ⟨rfl,(),rfl,⟨congrArg Value.bool (by unfold LP; rw [Bool.eq_iff_iff]; simp_all; try omega),trivial⟩,H⟩
       ·intro h4
        replace h4:=Bw h4
        refine Aj rfl rfl (Ad rfl rfl (AK Rd' rfl B4 B2 rfl rfl (by omega) (by omega) (by rfl) ?_))
        refine Ah rfl E1 rfl (Bb rfl BV rfl (((Rd'.ext0 H.ext).fld hd rfl (j:=1) rfl)) ?_)
        refine Aj rfl rfl (AV rfl AO rfl (Cx rfl rfl rfl (A6 rfl rfl (.bool _) rfl (Aw rfl rfl (AE 52 rfl ?_ ?_)))))
        ·intro h5
         replace h5:=AF h5
         refine Ag rfl (Ag rfl (Ag rfl (Ag rfl (Ag rfl (Ag rfl (Ag rfl (Ag rfl (AA rfl rfl (.bool _) rfl (Ab ?_)))))))))
         exact ⟨rfl,(),rfl,⟨congrArg Value.bool (by unfold LP; rw [Bool.eq_iff_iff]; simp_all; try omega),trivial⟩,H⟩
        ·intro h6
         replace h6:=AG h6
         refine Aj rfl rfl (Ad rfl rfl (AK Rd' rfl B4 B2 rfl rfl (by omega) (by omega) (by rfl) ?_))
         refine Ah rfl E3 rfl (Bb rfl BV rfl (((Rd'.ext0 H.ext).fld hd rfl (j:=2) rfl)) ?_)
         refine Aj rfl rfl (AV rfl AO rfl (Cx rfl rfl rfl (A6 rfl rfl (.bool _) rfl (Ab ?_))))
         exact ⟨rfl,(),rfl,⟨congrArg Value.bool (by unfold LP; rw [Bool.eq_iff_iff]; simp_all; try omega),trivial⟩,H⟩
      rintro - j61 w H
      refine Aq _ rfl ?_ ?_
      ·intro h4
       replace h4:=Bv h4
       refine Af (Ai rfl rfl (Ab (Aa (A8 (Al (A1 (Al (Al (A1 (Al (AB (v:=(.bool _)) rfl rfl rfl ?_)))))))))))
       have h5:ds.all (LP rs.length)=false:=by
        rw [List.all_eq_false]
        exact ⟨d,List.mem_of_getElem? hd,by simpa using h4⟩
       exact ⟨congrArg Value.bool (by rw [h5]; rfl),H.ext⟩
      ·intro h4
       replace h4:=Bw h4
       refine Ao (Aa (Av (Aj rfl rfl (Aj rfl rfl (Ad rfl rfl (AK Rd' rfl B4 B2 rfl rfl (by omega) (by omega) (by rfl) ?_))))))
       refine Ah rfl Dp rfl (Bb rfl Bt rfl (((Rd'.ext0 H.ext).fld hd rfl (j:=3) rfl)) ?_)
       refine C3 _ (.int _ _) rfl AO Bu Fa rfl (by decide) (by decide) rfl rfl rfl H ?_
       rintro b68 w - H
       refine Cl (L:=[]) rfl AO AO Bu HN Fa rfl (by decide) rfl rfl H O rfl (by simp [Bm]) (by omega) ?_
       rintro a' c' full' w H O
       refine Az rfl rfl (Ab (A5 (Aa (Av (Ad rfl rfl (Ap rfl rfl rfl (by omega) (by omega) ?_))))))
       refine Ae rfl rfl (Ab (Aa ?_))
       refine ⟨⟨i+1,a',c',full'⟩,rfl,⟨rfl,rfl,trivial⟩,⟨by dsimp only; omega,by dsimp only; rw [Fk hd,List.map_append]; exact O,H,fun k x hk hx=>?_⟩,by dsimp only; omega⟩
       rcases Nat.lt_or_ge k i with h7 | h7
       ·exact hdb k x h7 hx
       ·obtain rfl:k=i:=by dsimp only at hk; omega
        rw [hd] at hx
        cases hx
        simpa using h4
     ·intro h3
      replace h3:=AG h3
      obtain rfl:i=ds.length:=by omega
      rw [List.take_length] at O
      have had:ds.all (LP rs.length)=true:=by
       rw [List.all_eq_true]
       intro d hd
       obtain ⟨k,hk⟩:=List.mem_iff_getElem?.1 hd
       exact hdb k d (Cr hk) hk
      rw [had,Bool.true_and]
      refine Bc (Ak (Ak (AD (Aa (Af (Aj rfl rfl (Am rfl VR (Lq a2 ds.length c2 (ds.map Du.am) _ (O.rd1 fun x hx=>H.blk x hx) (by rw [List.length_map]) (by omega)) rfl ?_)))))))
      rintro v w ⟨rfl,rfl⟩
      rw [← htt]
      refine B9 rfl rfl (A3 rfl rfl rfl (A3 rfl rfl rfl (Ae rfl rfl (Ae rfl rfl (Ab (Aa (Af (Ad rfl rfl (Cu rfl rfl rfl (Ai rfl rfl ?_))))))))))
      refine Ab (Aa (A8 (AB (v:=(.bool _)) rfl rfl rfl ?_)))
      exact ⟨rfl,H.ext⟩
end Go.Proofs.YtapphbmlkdhnmaaGreat

/- Accounts, looked up. -/
namespace Go.Proofs.YtapphbmlkdhnmaaGreat
open Go.GV
attribute [local irreducible] AL W Wq Wt

def inA (acs:List Ac) (k:Int):Bool:=decide (0≤k) && decide (k<acs.length)
def getA (acs:List Ac) (k:Int):Ac:=if inA acs k=true then acs.getD k.toNat a00 else a00
set_option maxRecDepth 20000 in
set_option maxHeartbeats 2000000 in
theorem Y8 {bd:Nat} (a:Option Addr) (n c:Nat) (acs:List Ac) (k:Int) (w:World) (hd:w.heap[bd]? = some (Bl 116 [.slice a n c])) (R:Rd w a 2 CB acs) (hn:acs.length=n) (hm:n≤1000000) :
  Ret Tryz.prog 53 #[ptr bd,.int .i64 k] w fun v w'=>v = .tuple #[.agg (CB (getA acs k)).toArray,.bool (inA acs k)]∧Ext [] w w':=by
 subst hn
 obtain ⟨w0,rfl⟩:∃ w0,w0=w:=⟨_,rfl⟩
 have H:=Ctx.start w0 []
 refine A9 (fn:=Tryz.f53) Tryz.func53 rfl [.pointer (some ⟨bd,0,none⟩),.int .i64 k] rfl (by kernel_rfl) ?_
 refine Af (Bj rfl Hr H ?_)
 rintro b4 w - H
 refine Ai rfl rfl (Ab (Aa (An (Af (BD (α:=Unit) 2097088 (fun _=>[(20,.bool (!inA acs k))]) (fun _ w'=>Ctx w0 [] w' [(b4,Bl 64 (CB a00))]) rfl ?_ ?_)))))
 ·refine A2 rfl rfl (CK rfl MO rfl ?_)
  refine Aw rfl rfl (AE 8 rfl ?_ ?_)
  ·intro h1
   refine Ag rfl (Ag rfl (AA rfl rfl (.bool _) rfl (Aw rfl rfl (Ag rfl (Ag rfl (Ag rfl (Ag rfl (Ag rfl (Ag rfl ?_)))))))))
   refine Ag rfl (AA rfl rfl (.bool _) rfl (Ab ?_))
   exact ⟨rfl,(),rfl,⟨congrArg Value.bool (by unfold inA; rw [Bool.eq_iff_iff]; simp_all; try omega),trivial⟩,H⟩
  ·intro h2
   refine Ad rfl rfl (AZ rfl rfl rfl (A6 rfl rfl (.bool _) rfl (Aw rfl rfl (AE 12 rfl ?_ ?_))))
   ·intro h3
    replace h3:=AF h3
    refine Ag rfl (Ag rfl (Ag rfl (Ag rfl (Ag rfl (Ag rfl (Ag rfl (AA rfl rfl (.bool _) rfl (Ab ?_))))))))
    exact ⟨rfl,(),rfl,⟨congrArg Value.bool (by unfold inA; rw [Bool.eq_iff_iff]; simp_all; try omega),trivial⟩,H⟩
   ·intro h4
    replace h4:=AG h4
    refine Ad rfl rfl (A2 rfl rfl (AJ rfl rfl (Ah rfl Jh rfl (Bb rfl GK rfl ((H.old0 (by rw [Ay hd]; rfl))) ?_))))
    refine AV rfl CL rfl (Cx rfl rfl rfl (A6 rfl rfl (.bool _) rfl (Ab ?_)))
    exact ⟨rfl,(),rfl,⟨congrArg Value.bool (by unfold inA; rw [Bool.eq_iff_iff]; simp_all; try omega),trivial⟩,H⟩
 rintro - j20 w H
 refine Aq _ rfl ?_ ?_
 ·intro h1
  replace h1:=Bv h1
  refine Af (CE [.int .i64 0,.int .i64 0] rfl VV Hr (by kernel_rfl) ?_)
  refine B5 rfl Dc rfl rfl rfl (by simp [Bm]) H at0 rfl ?_
  rintro w H
  refine Ai rfl rfl (Ab (Aa (A8 (Al (Kv rfl rfl rfl JP Dc H at0 rfl (show _=(.bool _) from rfl) ?_)))))
  have h1':inA acs k=false:=by simpa using h1
  exact ⟨by unfold getA; rw [h1',if_neg (by decide)]; rfl,H.ext⟩
 ·intro h1
  replace h1:=Bw h1
  have h1':inA acs k=true:=by simpa using h1
  have h2:0≤k∧k<acs.length:=by unfold inA at h1'; simpa using h1'
  obtain ⟨i,rfl⟩:∃ i:Nat,k=(i:Int):=⟨k.toNat,by omega⟩
  obtain ⟨x,hx⟩:=A0 (l:=acs) (i:=i) (by omega)
  refine Ao (Aa (Af (A2 rfl rfl (AJ rfl rfl (Ah rfl Jh rfl (Bb rfl GK rfl ((H.old0 (by rw [Ay hd]; rfl))) ?_))))))
  refine Ad rfl rfl (AK R rfl CL Dc rfl rfl (by omega) (by omega) (by rfl) ?_)
  refine Cv _ rfl JP Dc rfl rfl ((R.ext0 H.ext).row hx rfl) ?_
  refine B5 rfl Dc rfl rfl rfl (by exact Ia _) H at0 rfl ?_
  rintro w H
  refine Ai rfl rfl (Ab (Aa (A8 (Kv rfl rfl rfl JP Dc H at0 rfl (show _=(.bool _) from rfl) ?_))))
  exact ⟨by unfold getA; rw [h1',if_pos rfl,show ((i:Int)).toNat=i from rfl,Bn hx],H.ext⟩
end Go.Proofs.YtapphbmlkdhnmaaGreat

/- The dues: Add, where nothing stands against it. -/
namespace Go.Proofs.YtapphbmlkdhnmaaGreat
open Go.GV
attribute [local irreducible] AL W Wq Wt

section
variable {P:Program} {r:Option Nat} {ops rest:List Oper} {Q:Exit→Env→World→Prop} {e:Env} {w:World} {dst:Option Tmp} {ty:TypeId} {pos:String} {af:Array Edge} {g:Option (Nat × Bool)}
theorem Y9 {t k el:TypeId} {kk:IntKind} {x:Operand} {b:Nat} {o:Obj} {m:List (Int × Value)} (hg:AX ⟨dst,.call ⟨.builtin .len,#[x],#[t]⟩,ty,pos,af,g⟩ ops e=true) (ht:Kr P t=some (k,el)) (hx:ev e x = .map (some b)) (hb:w.heap[b]? = some o) (hM:D8 kk m o)
  (h:AL P r ops Q rest (put e dst (.int .i64 (m.length:Int))) w):AL P r ops Q (⟨dst,.call ⟨.builtin .len,#[x],#[t]⟩,ty,pos,af,g⟩::rest) e w:=by
 obtain ⟨es,clock,rfl,hes,_⟩:=hM
 have hl:es.size=m.length:=by
  have:=congrArg List.length hes
  simpa using this
 have hgo:(getObj b).run P w = .ok (.map es clock) w:=by simp [getObj,Sem.run,hb]
 exact BH hg rfl (by simp [execOp,resolve,invoke,builtin,hx,Builtin.len_,Bd (GH ht),hgo,goInt,hl]) h
end
theorem Xh {ds:List Du} {d:Du} (h:Ei (dm ds) d.id=none):LN (dm ds) d.id (Gv d)=dm (ds++[d]):=by
 rw [← WK]
 generalize dm ds=m at h
 induction m with
 | nil=>rfl
 | cons p m ih =>
  have hp:¬ p.1=d.id:=by
   intro hp
   simp [Ei,hp] at h
  have hb2:(p.1 == d.id)=false:=by simpa using hp
  have hm2:Ei m d.id=none:=by rw [← h]; simp [Ei,hb2]
  simp [LN,hp,ih hm2]
set_option maxRecDepth 20000 in
set_option maxHeartbeats 4000000 in
theorem YA {bd b:Nat} {nx:Int} {o:Obj} {ds:List Du} {d:Du} (w:World) (hd:w.heap[bd]? = some (Bl 123 (DU b nx))) (hb:w.heap[b]? = some o) (hM:D8 .u64 (dm ds) o) (hbd:bd≠b) (hid:d.id=nx) (hheld:d.held=false) (hmay:DS d=true) (hlen:ds.length<64)
  (hnx:1≤nx∧nx<4611686018427387904) (hnew:∀ x∈ds,x.id≠nx) (htot:(Fg (ds.map Du.am++[d.am])).2=0) :
  Ret Tryz.prog 52 #[ptr bd,.int .i64 d.fr,.int .i64 d.to,.int .i64 d.am,.int .i64 d.we,.int .i64 d.un] w fun v w'=>v = .tuple #[.int .u64 nx,.int .i64 0]∧∃ o',D8 .u64 (dm (ds++[d])) o'∧Ctx w [bd,b] w' [(bd,Bl 123 (DU b (nx+1))),(b,o')]:=by
 obtain ⟨w0,rfl⟩:∃ w0,w0=w:=⟨_,rfl⟩
 have H:Ctx w0 [bd,b] w0 [(bd,Bl 123 (DU b nx)),(b,o)]:=⟨Ext.refl _ _,fun y hy=>by
  simp only [List.mem_cons,List.not_mem_nil,or_false] at hy
  rcases hy with rfl | rfl
  ·exact hd
  ·exact hb,by simp only [List.pairwise_cons,List.mem_singleton,forall_eq,List.not_mem_nil,false_implies,implies_true,List.Pairwise.nil,and_true]; exact hbd,fun y hy=>by
  simp only [List.mem_cons,List.not_mem_nil,or_false] at hy
  rcases hy with rfl | rfl
  ·exact .inl (List.mem_cons_self ..)
  ·exact .inl (List.mem_cons_of_mem _ (List.mem_cons_self ..))⟩
 have hdl:(dm ds).length=ds.length:=by unfold dm; rw [List.length_map]
 have hno:Ei (dm ds) d.id=none:=Ow fun x hx=>by rw [hid]; exact hnew x hx
 obtain ⟨tt,htt⟩:∃ tt,tt=Fg (ds.map Du.am++[d.am]):=⟨_,rfl⟩
 rw [← htt] at htot
 have henc:[Value.int .u64 nx,.int .i64 d.fr,.int .i64 d.to,.int .i64 d.am,.int .i64 d.we,.int .i64 d.un,.bool false]=Cf d:=by rw [← hid,← hheld]
 refine A9 (fn:=Tryz.f52) Tryz.func52 rfl [.pointer (some ⟨bd,0,none⟩),.int .i64 d.fr,.int .i64 d.to,.int .i64 d.am,.int .i64 d.we,.int .i64 d.un] rfl (by kernel_rfl) ?_
 refine Af (Ae rfl rfl (Ae rfl rfl (Ab (Aa (An (Af (A2 rfl rfl (CK rfl K8 rfl ?_))))))))
 refine Ab (Aa (Aq _ rfl ?_ ?_))
 ·intro h0
  cases h0
 ·intro h0
  refine Ao (Aa (Af (A2 rfl rfl (AJ rfl rfl (Ah rfl K4 rfl (AN rfl BK rfl H at0 rfl (Ad rfl rfl (Ad rfl rfl (Ad rfl rfl (Ad rfl rfl ?_))))))))))
  refine Ad rfl rfl (CE (Cf d) rfl pl_62 Eh (by rw [← henc]; kernel_rfl) ?_)
  refine Bj rfl Eh H ?_
  rintro b14 w - H
  refine B5 rfl B2 rfl rfl rfl (by exact DM d) H at0 rfl ?_
  rintro w H
  refine Ab (Aa (An (Au (Af (B6 rfl E7 B2 rfl H at0 rfl (Am rfl V4 (TM d _) rfl ?_))))))
  rintro v w ⟨rfl,hx31⟩
  replace H:=H.call hx31
  rw [hmay]
  refine B1 rfl rfl (Ai rfl rfl (Ab (Aa (Aq _ rfl ?_ ?_))))
  ·intro h1
   replace h1:=Bv h1
   cases h1
  ·intro h1
   replace h1:=Bw h1
   refine An (Af (A2 rfl rfl (AJ rfl rfl (Ah rfl EQ rfl (AN rfl Gq rfl H at1 rfl (Y9 rfl GN rfl (H.get at2) hM ?_))))))
   rw [hdl]
   refine Cx rfl rfl rfl (Ai rfl rfl (Ab (Aa (D9 33 rfl ?_ ?_))))
   ·intro h2
    replace h2:=AF h2
    omega
   ·intro h2
    replace h2:=AG h2
    refine Av (A2 rfl rfl (AJ rfl rfl (Ah rfl K4 rfl (AN rfl BK rfl H at1 rfl (Cx rfl rfl rfl (Ai rfl rfl (Ab (Aa (D9 33 rfl ?_ ?_)))))))))
    ·intro h3
     replace h3:=AF h3
     omega
    ·intro h3
     replace h3:=AG h3
     refine Ao (A5 (Aa (An (Af (A2 rfl rfl (Am rfl V5 (Ng _ (H.get at1) (H.get at2) hM (by omega)) rfl ?_))))))
     rintro v w ⟨l,hlp,F⟩
     obtain ⟨a3,n3,c3,f3,rfl,O3,hb3⟩:=F.ex
     have hl3:=O3.llen
     rw [List.length_map] at hl3
     have hlq:=hlp.length_eq
     rw [List.length_map] at hlq
     replace H:Ctx w0 [bd,b] w ([(b14,Bl 62 (Cf d)),(bd,Bl 123 (DU b nx)),(b,o)]++ent a3 2 f3):=H.callEnt F.ext hb3 Ir
     refine Ad rfl rfl (C3 _ (.int _ _) rfl AO Bu Fa rfl (by decide) (by decide) rfl rfl rfl H ?_)
     rintro b49 w - H
     refine Cl (L:=[_,_,_]) rfl AO AO Bu HN Fa rfl (by decide) rfl rfl H O3 rfl (by simp [Bm]) (by omega) ?_
     rintro a' c' full' w H O
     refine Am rfl Pn (Me a' (n3+1) c' (l++[d.am]) _ (OS.rd1 (f:=FJ) (t:=2) (xs:=l++[d.am]) (by rw [List.map_append]; exact O) (fun x hx=>H.blk x (List.mem_append_right [_,_,_] hx))) (by rw [List.length_append]; show l.length+1=_; omega) (by omega)) rfl ?_
     rintro v w ⟨rfl,rfl⟩
     rw [Ov (hlp.append_right [d.am])]
     rw [← htt]
     refine B9 rfl rfl (A3 rfl rfl rfl (A3 rfl rfl rfl (Ae rfl rfl (Ae rfl rfl (Ab (Aa (Af (Ad rfl rfl (Cp rfl rfl rfl (Ab (Aa ?_)))))))))))
     refine Aq _ rfl ?_ ?_
     ·intro h4
      replace h4:=CY h4
      exact absurd htot h4
     ·intro h4
      replace h4:=CZ h4
      replace H:=H.left
      refine Ao (Aa (DK 7 B0 (by kernel_rfl) rfl rfl ?_))
      refine BS rfl rfl (Bh rfl rfl (A7 rfl EQ rfl (Cd rfl Gq rfl (by rintro _ rfl; exact H.drew) at1 rfl ?_)))
      refine A7 rfl Dw rfl (Cd rfl BK rfl (by rintro _ rfl; exact H.drew) at0 rfl ?_)
      refine Pc rfl E7 B2 rfl (by rintro _ rfl; exact H.drew) at0 rfl ?_
      refine BJ ?_
      replace H:=H.drew
      refine Ks (Gv d) rfl GN Gx rfl rfl rfl H at2 hM ?_
      rintro o2 w hM2 H
      refine Ab (Aa (Af (A2 rfl rfl (AJ rfl rfl (Ah rfl K4 rfl (AN rfl BK rfl H at1 rfl (Ey rfl rfl rfl (by omega) (by omega) ?_)))))))
      refine AJ rfl rfl (Ah rfl K4 rfl (Cy (.int _ _) rfl Bo rfl rfl rfl H at1 (by (simp; done)) ?_))
      rintro w H
      refine Ab (Aa (Af (Ah rfl Dw rfl (AN rfl BK rfl H at0 rfl (Ae rfl rfl (Ae rfl rfl (Ab (Aa (A8 (Cq (v1:=(.int _ _)) (v2:=(.int _ _)) rfl rfl rfl rfl ?_))))))))))
      rw [Xh hno] at hM2
      exact ⟨by rw [hid],o2,hM2,H.tail⟩
end Go.Proofs.YtapphbmlkdhnmaaGreat

/- Nets, as the reference has them. -/
namespace Go.Proofs.YtapphbmlkdhnmaaGreat
open Go.GV
attribute [local irreducible] AL W Wq Wt

def KM (N k:Int):Bool:=decide (0≤k) && decide (k<N)
theorem QS (N:Int) (a:Option Addr) (n c:Nat) (k:Int) (w:World):Ret Tryz.prog 124 #[CS N a n c,.int .i64 k] w fun v w'=>v = .bool (KM N k)∧Ext [] w w':=by
 obtain ⟨w0,rfl⟩:∃ w0,w0=w:=⟨_,rfl⟩
 have H:=Ctx.start w0 []
 refine A9 (fn:=Tryz.f124) Tryz.func124 rfl [CS N a n c,.int .i64 k] rfl (by kernel_rfl) ?_
 refine Af (BC rfl [.int .i64 N,.slice a n c] (.agg _) rfl rfl H ?_)
 rintro b2 w - H
 refine Ai rfl rfl (Ab (Aa (Af (Ad rfl rfl (Cx rfl rfl rfl (Aw rfl rfl (AE 7 rfl ?_ ?_)))))))
 ·intro h1
  replace h1:=AF h1
  refine Ad rfl rfl (Ah rfl D5 rfl (AN rfl BV rfl H at0 rfl (AZ rfl rfl rfl (AA rfl rfl (.bool _) rfl (Ai rfl rfl (Ab (Aa (A8 (AB (v:=(.bool _)) rfl rfl rfl ?_)))))))))
  exact ⟨congrArg Value.bool (by unfold KM; rw [Bool.eq_iff_iff]; simp_all; try omega),H.ext⟩
 ·intro h2
  replace h2:=AG h2
  refine Ag rfl (Ag rfl (Ag rfl (Ag rfl (A6 rfl rfl (.bool _) rfl (Ai rfl rfl (Ab (Aa (A8 (AB (v:=(.bool _)) rfl rfl rfl ?_)))))))))
  exact ⟨congrArg Value.bool (by unfold KM; rw [Bool.eq_iff_iff]; simp_all; try omega),H.ext⟩
end Go.Proofs.YtapphbmlkdhnmaaGreat

/- What is left when open dues are paid, one by one: plain law. -/
namespace Go.Proofs.YtapphbmlkdhnmaaGreat
open Go.GV

theorem FU {xs:List Int}:(Fg xs).2=0↔(∀ x∈xs,Di x=true)∧CO xs≤4503599627370496:=by
 unfold Fg
 cases h:xs.all Di with
 | false =>
  rw [if_pos rfl]
  refine ⟨fun h=>by simp at h,fun h2=>?_⟩
  rw [List.all_eq_true.2 h2.1] at h; cases h
 | true =>
  rw [if_neg (by decide)]
  rw [List.all_eq_true] at h
  split
  ·rename_i h3; exact ⟨fun _=>⟨h,h3⟩,fun _=>rfl⟩
  ·rename_i h3; exact ⟨fun h=>by simp at h,fun h4=>absurd h4.2 h3⟩
theorem D7 {ds:List Du} {nx:Int}:ofC ds nx=0↔ds.length≤64∧(1≤nx∧nx≤4611686018427387904)∧Fb nx 0 ds=true∧(Fg (ds.map (·.am))).2=0:=by
 unfold ofC
 by_cases h1:64<ds.length
 ·rw [if_pos h1]; exact ⟨fun h=>by simp at h,fun h=>absurd h.1 (by omega)⟩
 rw [if_neg h1]
 by_cases h2:1≤nx∧nx≤4611686018427387904
 ·rw [decide_eq_true h2.1,decide_eq_true h2.2,if_neg (by decide)]
  cases h3:Fb nx 0 ds with
  | false=>rw [if_pos rfl]; exact ⟨fun h=>by simp at h,fun h=>by cases h.2.2.1⟩
  | true=>rw [if_neg (by decide)]; exact ⟨fun h=>⟨by omega,h2,rfl,h⟩,fun h=>h.2.2.2⟩
 ·have:(decide (1≤nx) && decide (nx≤4611686018427387904))=false:=by
   rw [Bool.eq_false_iff]; intro h; simp only [Bool.and_eq_true,decide_eq_true_eq] at h; exact h2 h
  rw [if_pos this]
  exact ⟨fun h=>by simp at h,fun h=>absurd h.2.1 h2⟩
theorem YB {nx a b:Int} {ds:List Du} (h:Fb nx b ds=true) (hab:a≤b):Fb nx a ds=true:=by
 cases ds with
 | nil=>rfl
 | cons d ds =>
  simp only [Fb,Bool.and_eq_true,decide_eq_true_eq] at h ⊢
  exact ⟨⟨h.1.1,by omega,h.1.2.2⟩,h.2⟩
/-- What is left when the open ones are paid. -/
def DW:List Du→List Int→List Du
 | [],_=>[]
 | d::ds,[]=>d::ds
 | d::ds,x::xs=>if d.held=true then d::DW ds (x::xs) else if d.am=x then DW ds xs else { d with am:=d.am - x }::DW ds xs
theorem OE (ds:List Du):DW ds []=ds:=by cases ds <;> rfl
theorem Hf {d:Du} (h:d.held=true) (ds:List Du) (xs:List Int):DW (d::ds) xs=d::DW ds xs:=by
 cases xs with
 | nil=>rw [OE,OE]
 | cons x xs=>show (if d.held=true then _ else _)=_; rw [if_pos h]
theorem Hg {d:Du} (h:¬ d.held=true) (ds:List Du) (x:Int) (xs:List Int):DW (d::ds) (x::xs)=(if d.am=x then [] else [{ d with am:=d.am - x }])++DW ds xs:=by
 show (if d.held=true then _ else _)=_
 rw [if_neg h]
 split <;> rfl
theorem FH (d:Du) (ds:List Du):opn (d::ds)=(if d.held=true then [] else [d])++opn ds:=by
 unfold opn
 rw [List.filter_cons]
 cases d.held <;> rfl
/-- What is paid may be. -/
def PayIn (os:List Du) (xs:List Int):Prop:=os.length=xs.length∧∀ (i:Nat) (d:Du) (x:Int),os[i]? = some d→xs[i]? = some x→0≤x∧x≤d.am
theorem PayIn.tail {d:Du} {x:Int} {os:List Du} {xs:List Int} (h:PayIn (d::os) (x::xs)):(0≤x∧x≤d.am)∧PayIn os xs :=
 ⟨h.2 0 d x rfl rfl,by have:=h.1; simp only [List.length_cons] at this; omega,fun i e y he hy=>h.2 (i+1) e y he hy⟩
theorem PayIn.cons {d:Du} {os:List Du} {xs:List Int} (h:PayIn (d::os) xs):∃ x xs',xs=x::xs':=by
 cases xs with
 | nil=>have:=h.1; simp at this
 | cons x xs=>exact ⟨x,xs,rfl⟩
/-- Through the dues, one by one: what is held stays, what is open is paid. -/
theorem Ie {motive:List Du→List Int→Prop} (h0:∀ xs,motive [] xs) (h1:∀ d ds xs,d.held=true→motive ds xs→motive (d::ds) xs) (h2:∀ d ds x xs,¬ d.held=true→0≤x→x≤d.am→motive ds xs→motive (d::ds) (x::xs)):∀ (ds:List Du) (xs:List Int),PayIn (opn ds) xs→motive ds xs
 | [],xs,_=>h0 xs
 | d::ds,xs,h=>by
  rw [FH] at h
  by_cases hd:d.held=true
  ·rw [if_pos hd] at h
   exact h1 d ds xs hd (Ie h0 h1 h2 ds xs h)
  ·rw [if_neg hd] at h
   obtain ⟨x,xs,rfl⟩:=PayIn.cons h
   obtain ⟨ha,hb⟩:=PayIn.tail h
   exact h2 d ds x xs hd ha.1 ha.2 (Ie h0 h1 h2 ds xs hb)
theorem Xi {nx:Int} {ds:List Du} {xs:List Int} (h:PayIn (opn ds) xs):∀ ah,Fb nx ah ds=true→Fb nx ah (DW ds xs)=true:=by
 refine Ie (motive:=fun ds xs=>∀ ah,Fb nx ah ds=true→Fb nx ah (DW ds xs)=true) ?_ ?_ ?_ ds xs h
 ·intro xs ah h; exact h
 ·intro d ds xs hd ih ah h
  rw [Hf hd]
  simp only [Fb,Bool.and_eq_true,decide_eq_true_eq] at h ⊢
  exact ⟨h.1,ih _ h.2⟩
 ·intro d ds x xs hd h0 h1 ih ah h
  rw [Hg hd]
  simp only [Fb,Bool.and_eq_true,decide_eq_true_eq] at h
  by_cases he:d.am=x
  ·rw [if_pos he]
   exact YB (ih _ h.2) (by omega)
  ·rw [if_neg he]
   show Fb nx ah ({ d with am:=d.am - x }::DW ds xs)=true
   simp only [Fb,Bool.and_eq_true,decide_eq_true_eq]
   refine ⟨⟨?_,h.1.2⟩,ih _ h.2⟩
   have hm:=h.1.1
   unfold DS Di at hm ⊢
   simp only [Bool.and_eq_true,decide_eq_true_eq,Bool.not_eq_true',decide_eq_false_iff_not] at hm ⊢
   exact ⟨hm.1,by omega,by omega,hm.2.2.2⟩
theorem Xj {ds:List Du} {xs:List Int} (h:PayIn (opn ds) xs):(DW ds xs).length≤ds.length:=by
 refine Ie (motive:=fun ds xs=>(DW ds xs).length≤ds.length) ?_ ?_ ?_ ds xs h
 ·intro xs; exact Nat.le_refl _
 ·intro d ds xs hd ih; rw [Hf hd]; simpa using ih
 ·intro d ds x xs hd _ _ ih
  rw [Hg hd,List.length_append,List.length_cons]
  split <;> simp <;> omega
/-- A sum over dues, each by what it weighs: less what was paid. -/
theorem QT (c:Du→Int) (hc:∀ d z,c { d with am:=z }=c d) {ds:List Du} {xs:List Int} (h:PayIn (opn ds) xs):CO ((DW ds xs).map fun d=>c d*d.am)=CO (ds.map fun d=>c d*d.am) - CO (List.zipWith (fun d x=>c d*x) (opn ds) xs):=by
 refine Ie (motive:=fun ds xs=>CO ((DW ds xs).map fun d=>c d*d.am)=CO (ds.map fun d=>c d*d.am) - CO (List.zipWith (fun d x=>c d*x) (opn ds) xs)) ?_ ?_ ?_ ds xs h
 ·intro xs; rfl
 ·intro d ds xs hd ih
  rw [Hf hd,FH,if_pos hd,List.map_cons,List.map_cons,CF,CF,ih,List.nil_append]; omega
 ·intro d ds x xs hd _ _ ih
  rw [Hg hd,FH,if_neg hd,List.cons_append,List.nil_append,List.map_append,Gm,ih,List.map_cons,CF]
  show _=_ - CO ((c d*x)::List.zipWith _ _ _)
  rw [CF]
  by_cases he:d.am=x
  ·rw [if_pos he,he]
   show CO []+_=_
   have:CO []=0:=rfl
   rw [this]; omega
  ·rw [if_neg he]
   show CO [c { d with am:=d.am - x }*(d.am - x)]+_=_
   have h1:∀ z:Int,CO [z]=z:=fun z=>by rw [CF]; show z+0=z; omega
   rw [h1,hc,Int.mul_sub]; omega
theorem YC {nx:Int} {ds:List Du} {xs:List Int} (h:PayIn (opn ds) xs) (ho:ofC ds nx=0):ofC (DW ds xs) nx=0:=by
 obtain ⟨h1,h2,h3,h4⟩:=D7.1 ho
 have h5:=Xi h 0 h3
 have h6:=Xj h
 have h7:=QT (fun _=>1) (fun _ _=>rfl) h
 simp only [Int.one_mul] at h7
 obtain ⟨ha,hb⟩:=FU.1 h4
 refine D7.2 ⟨by omega,h2,h5,FU.2 ⟨fun x hx=>?_,?_⟩⟩
 ·obtain ⟨d,hd,rfl⟩:=List.mem_map.1 hx
  have:=((Js h5).1 d hd).2.2.2
  unfold DS at this
  simp only [Bool.and_eq_true] at this
  exact this.2.2.1
 ·have h8:0≤CO (List.zipWith (fun _ x=>x) (opn ds) xs):=F1 fun x hx=>by
   obtain ⟨i,hi⟩:=List.mem_iff_getElem?.1 hx
   rw [List.getElem?_zipWith] at hi
   cases h9:(opn ds)[i]? with
   | none=>rw [h9] at hi; cases hi
   | some d =>
    cases h10:xs[i]? with
    | none=>rw [h9,h10] at hi; cases hi
    | some y =>
     rw [h9,h10] at hi
     injection hi with hi
     have:=(h.2 i d y h9 h10).1
     omega
  show CO ((DW ds xs).map fun d=>d.am)≤_
  rw [h7]
  show CO (ds.map fun d=>d.am) - _≤_
  have hb':CO (ds.map fun d=>d.am)≤4503599627370496:=hb
  omega
/-- Pays, one by one, each right. -/
def JU (ds:List Du):List (Du × Int)→Prop
 | []=>True
 | p::ps=>(DC ds p.1.id=some p.1∧p.1.held=false∧0≤p.2∧p.2≤p.1.am)∧JU (FT ds p.1.id p.2) ps
def G2 (ds:List Du):List (Du × Int)→List Du
 | []=>ds
 | p::ps=>G2 (FT ds p.1.id p.2) ps
theorem QU (ps qs:List (Du × Int)):∀ ds,G2 ds (ps++qs)=G2 (G2 ds ps) qs:=by
 induction ps with
 | nil=>intro ds; rfl
 | cons p ps ih=>intro ds; exact ih _
theorem PC {ps qs:List (Du × Int)}:∀ {ds},JU ds (ps++qs)→JU ds ps∧JU (G2 ds ps) qs:=by
 induction ps with
 | nil=>intro ds h; exact ⟨trivial,h⟩
 | cons p ps ih=>intro ds h; exact ⟨⟨h.1,(ih h.2).1⟩,(ih h.2).2⟩
/-- A step. -/
theorem Nk {ds:List Du} {ps:List (Du × Int)} (h:JU ds ps) {i:Nat} {p:Du × Int} (hp:ps[i]? = some p):(DC (G2 ds (ps.take i)) p.1.id=some p.1∧p.1.held=false∧0≤p.2∧p.2≤p.1.am)∧G2 ds (ps.take (i+1))=FT (G2 ds (ps.take i)) p.1.id p.2:=by
 have hs:ps=ps.take i++ps.drop i:=(List.take_append_drop i ps).symm
 have hd:ps.drop i=p::ps.drop (i+1):=by
  have hl:=Cr hp
  rw [List.drop_eq_getElem_cons hl]
  rw [List.getElem?_eq_getElem hl] at hp
  injection hp with hp
  rw [hp]
 rw [hs,hd] at h
 refine ⟨(PC h).2.1,?_⟩
 rw [List.take_add_one,hp]
 exact QU _ [p] ds
theorem OG {ds:List Du} {p:Du × Int} (h:DC ds p.1.id=some p.1∧p.1.held=false∧0≤p.2∧p.2≤p.1.am):He ds p.1.id p.2=0∧IM ds p.1.id p.2=FT ds p.1.id p.2:=by
 have h1:He ds p.1.id p.2=0:=by
  unfold He pC
  rw [h.1]
  show (if p.2<0 then (1:Int) else if p.1.held=true then 14 else if p.1.am<p.2 then 12 else 0)=0
  rw [if_neg (by omega),h.2.1,if_neg (by decide),if_neg (by omega)]
 exact ⟨h1,by unfold IM; rw [if_pos h1]⟩
theorem Xk {P ds:List Du} {k x:Int} (h:∀ d∈P,d.id≠k):FT (P++ds) k x=P++FT ds k x:=by
 induction P with
 | nil=>rfl
 | cons y P ih =>
  show (if y.id=k then _ else y::FT (P++ds) k x)=_
  rw [if_neg (h y (List.mem_cons_self ..)),ih fun d hd=>h d (List.mem_cons_of_mem _ hd)]; rfl
theorem UW {P ds:List Du} {k:Int} (h:∀ d∈P,d.id≠k):DC (P++ds) k=DC ds k:=by
 unfold DC
 rw [List.find?_append,List.find?_eq_none.2 fun d hd=>by simpa using h d hd]; rfl
theorem YD {ds:List Du} {xs:List Int} (h:PayIn (opn ds) xs):∀ P:List Du,((P++ds).map (·.id)).Nodup→JU (P++ds) ((opn ds).zip xs)∧G2 (P++ds) ((opn ds).zip xs)=P++DW ds xs:=by
 refine Ie (motive:=fun ds xs=>∀ P:List Du,((P++ds).map (·.id)).Nodup→JU (P++ds) ((opn ds).zip xs)∧G2 (P++ds) ((opn ds).zip xs)=P++DW ds xs) ?_ ?_ ?_ ds xs h
 ·intro xs P _; exact ⟨trivial,rfl⟩
 ·intro d ds xs hd ih P hn
  rw [FH,if_pos hd,Hf hd,List.nil_append]
  have:=ih (P++[d]) (by rw [List.append_assoc]; exact hn)
  rw [List.append_assoc,List.append_assoc] at this
  exact this
 ·intro d ds x xs hd h0 h1 ih P hn
  have hP:∀ e∈P,e.id≠d.id:=fun e he h=>by
   rw [List.map_append,List.nodup_append] at hn
   exact hn.2.2 e.id (List.mem_map_of_mem (f:=fun d:Du=>d.id) he) d.id (List.mem_map_of_mem (f:=fun d:Du=>d.id) (List.mem_cons_self ..)) h
  have hpl:FT (P++d::ds) d.id x=P++((if d.am=x then [] else [{ d with am:=d.am - x }])++ds):=by
   rw [Xk hP]
   congr 1
   show (if d.id=d.id then _ else _)=_
   rw [if_pos rfl]
   split <;> rfl
  rw [FH,if_neg hd,Hg hd]
  show ((DC (P++d::ds) d.id=some d∧d.held=false∧0≤x∧x≤d.am)∧JU (FT (P++d::ds) d.id x) ((opn ds).zip xs))∧G2 (FT (P++d::ds) d.id x) ((opn ds).zip xs)=_
  rw [hpl,← List.append_assoc]
  have hn2:((P++(if d.am=x then ([]:List Du) else [{ d with am:=d.am - x }])++ds).map fun d:Du=>d.id).Nodup:=by
   split
   ·rw [List.append_nil]
    refine List.Nodup.sublist ?_ hn
    exact List.Sublist.map _ (List.Sublist.append (List.Sublist.refl _) (List.sublist_cons_self _ _))
   ·rw [List.append_assoc,List.map_append] at *
    exact hn
  obtain ⟨i1,i2⟩:=ih _ hn2
  refine ⟨⟨⟨?_,by simpa using hd,h0,h1⟩,i1⟩,by rw [i2,List.append_assoc]⟩
  rw [UW hP]
  unfold DC
  rw [List.find?_cons,show (d.id == d.id)=true by simp]
theorem Xl {l:List Int} (h:l.Pairwise (·<·)):l.Nodup:=h.imp fun h=>by omega
theorem QV {nx:Int} {ds:List Du} (h:ofC ds nx=0):(ds.map (·.id)).Nodup:=Xl (Js (D7.1 h).2.2.1).2.1
theorem SB {nx:Int} {ds:List Du} (h:ofC ds nx=0) {d:Du} (hd:d∈ds):0<d.id∧d.id<nx∧DS d=true:=by
 have:=(Js (D7.1 h).2.2.1).1 d hd
 exact ⟨this.1,this.2.2⟩
theorem E5 {d:Du} (h:DS d=true):(0≤d.fr∧d.fr<16)∧(0≤d.to∧d.to<16)∧d.fr≠d.to∧(1≤d.am∧d.am≤4503599627370496)∧(1≤d.we∧d.we≤1000)∧0≤d.un:=by
 unfold DS Di EE at h
 simp only [Bool.and_eq_true,decide_eq_true_eq,Bool.not_eq_true',decide_eq_false_iff_not] at h
 exact ⟨h.1.1,h.1.2.1,h.1.2.2,⟨h.2.1,h.2.2.1.2⟩,⟨h.2.2.2.1,h.2.2.2.2.1⟩,h.2.2.2.2.2⟩
/-- Amounts stay small. -/
def SD (ds:List Du):Prop:=∀ d∈ds,0≤d.am∧d.am≤4503599627370496
theorem TQ {nx:Int} {ds:List Du} (h:ofC ds nx=0):SD ds:=fun d hd=>by
 have:=(E5 (SB h hd).2.2).2.2.2.1
 omega
theorem YE {ds:List Du} {k x:Int} {e:Du} (h:SD ds) (hf:DC ds k=some e) (h0:0≤x) (h1:x≤e.am):SD (FT ds k x)∧(FT ds k x).length≤ds.length:=by
 induction ds with
 | nil=>cases hf
 | cons d ds ih =>
  unfold DC at hf
  rw [List.find?_cons] at hf
  have hd:=h d (List.mem_cons_self ..)
  unfold FT
  by_cases hk:d.id=k
  ·rw [show (d.id == k)=true by simpa using hk] at hf
   injection hf with hf
   subst hf
   rw [if_pos hk]
   split
   ·exact ⟨fun e he=>h e (List.mem_cons_of_mem _ he),by simp⟩
   ·refine ⟨fun e he=>?_,by simp⟩
    rcases List.mem_cons.1 he with rfl | he
    ·exact ⟨by show 0≤d.am - x; omega,by show d.am - x≤_; omega⟩
    ·exact h e (List.mem_cons_of_mem _ he)
  ·rw [show (d.id == k)=false by simpa using hk] at hf
   obtain ⟨i1,i2⟩:=ih (fun e he=>h e (List.mem_cons_of_mem _ he)) hf
   rw [if_neg hk]
   refine ⟨fun e he=>?_,by simpa using i2⟩
   rcases List.mem_cons.1 he with rfl | he
   ·exact hd
   ·exact i1 e he
theorem PD {ds:List Du} {ps:List (Du × Int)} (h:SD ds) (hp:JU ds ps):∀ i,SD (G2 ds (ps.take i))∧(G2 ds (ps.take i)).length≤ds.length
 | 0=>⟨h,Nat.le_refl _⟩
 | i+1=>by
  obtain ⟨i1,i2⟩:=PD h hp i
  cases hi:ps[i]? with
  | none=>rw [List.take_add_one,hi]; show SD (G2 ds (ps.take i++[]))∧(G2 ds (ps.take i++[])).length≤_; rw [List.append_nil]; exact ⟨i1,i2⟩
  | some p =>
   obtain ⟨h1,h2⟩:=Nk hp hi
   rw [h2]
   obtain ⟨h3,h4⟩:=YE i1 h1.1 h1.2.2.1 h1.2.2.2
   exact ⟨h3,Nat.le_trans h4 i2⟩
end Go.Proofs.YtapphbmlkdhnmaaGreat

/- What flows in a round, and what that shifts: plain law. -/
namespace Go.Proofs.YtapphbmlkdhnmaaGreat
open Go.GV

theorem Fc (rs:List Int) (os:List Du) (net:Bool):(BF rs os net).length=os.length+if net=true then 0 else 2*rs.length:=by
 unfold BF
 rw [List.length_append,List.length_map]
 split
 ·rfl
 ·rw [Mf]
theorem G3 {rs:List Int} {os:List Du} {net:Bool} {i:Nat} {d:Du} (h:os[i]? = some d):(BF rs os net)[i]? = some (Fu d):=by
 unfold BF
 have hl:=Cr h
 rw [List.getElem?_append_left (by rw [List.length_map]; exact hl),List.getElem?_map,h]; rfl
theorem Ht {rs:List Int} {os:List Du} {j:Nat} {e:Ed} (h:(IP rs)[j]? = some e):(BF rs os false)[os.length+j]? = some e:=by
 unfold BF
 rw [List.getElem?_append_right (by rw [List.length_map]; omega),List.length_map,show os.length+j - os.length=j by omega,if_neg (by decide),h]
/-- What dues may be in a round of n banks. -/
def OH (n:Nat) (d:Du):Prop:=DS d=true∧d.fr<n∧d.to<n
theorem OJ {n:Nat}:∀ {os:List Du},(∀ d∈os,OH n d)→((((os.map Fu).map Fe).sum:Nat):Int)≤1000*CO (os.map Du.am)
 | [],_=>by show (0:Int)≤1000*0; omega
 | d::os,h=>by
  have ih:=OJ (os:=os) fun e he=>h e (List.mem_cons_of_mem _ he)
  have hm:=E5 (h d (List.mem_cons_self ..)).1
  rw [List.map_cons,List.map_cons,List.sum_cons,List.map_cons,CF]
  have h1:Fe (Fu d)≤d.am.toNat*1000:=Nat.mul_le_mul_left _ (by show (-d.we).natAbs≤1000; omega)
  have h2:((d.am.toNat:Nat):Int)=d.am:=Int.toNat_of_nonneg (by omega)
  have h3:((Fe (Fu d):Nat):Int)≤d.am*1000:=by omega
  rw [Int.natCast_add,Int.mul_add]; omega
theorem UX {rs:List Int} {os:List Du} {net:Bool} (hn:rs.length≤16) (hm:os.length≤64) (hrs:∀ x∈rs,Di x=true) (hos:∀ d∈os,OH rs.length d) (hsum:CO (os.map Du.am)≤4503599627370496):Cb ((rs.length+1:Nat):Int) (BF rs os net)=true:=by
 have hl:=Fc rs os net
 have hE:(BF rs os net).length≤200:=by rw [hl]; split <;> omega
 have hall:(BF rs os net).all (DV ((rs.length+1:Nat):Int))=true:=by
  rw [List.all_eq_true]
  intro e he
  unfold BF at he
  rcases List.mem_append.1 he with he | he
  ·obtain ⟨d,hd,rfl⟩:=List.mem_map.1 he
   obtain ⟨h1,h2,h3⟩:=hos d hd
   have:=E5 h1
   unfold DV GU Fu
   simp only [Bool.and_eq_true,decide_eq_true_eq]
   omega
  ·split at he
   ·cases he
   ·unfold IP at he
    obtain ⟨j,hj,rfl⟩:=List.mem_map.1 he
    rw [List.mem_range] at hj
    obtain ⟨r,hr⟩:=A0 (l:=rs) (i:=j / 2) (by omega)
    have hr2:=Da.1 (hrs r (List.mem_of_getElem? hr))
    unfold DV GU
    rw [Bn hr]
    split
    ·simp only [Bool.and_eq_true,decide_eq_true_eq]; omega
    ·simp only [Bool.and_eq_true,decide_eq_true_eq]; omega
 have hp:Ef (BF rs os net)≤4611686018427387904:=by
  unfold Ef BF
  rw [List.map_append,List.sum_append]
  have h1:=OJ hos
  have h2:((if net=true then [] else IP rs).map Fe).sum=0:=by
   split
   ·rfl
   ·unfold IP
    rw [List.map_map]
    have:∀ l:List Nat,(l.map (Fe ∘ fun j=>if j % 2=0 then (⟨rs.length,(j / 2:Nat),rs.getD (j / 2) 0,0⟩:Ed) else ⟨(j / 2:Nat),rs.length,4503599627370496,0⟩)).sum=0:=by
     intro l
     induction l with
     | nil=>rfl
     | cons j l ih =>
      rw [List.map_cons,List.sum_cons,ih]
      show Fe (if j % 2=0 then _ else _)+0=0
      split <;> rfl
    exact this _
  rw [h2]; omega
 unfold Cb
 rw [hall,decide_eq_true hE,decide_eq_true hp,decide_eq_true (show (1:Int)≤((rs.length+1:Nat):Int) by omega),decide_eq_true (show ((rs.length+1:Nat):Int)≤40 by omega)]; rfl
theorem QW {g:Gr} {x:Nat→Int} {n m:Nat} (hE:∀ k,k<n→(g.f (m+2*k)=n∧g.t (m+2*k)=k)∧g.f (m+2*k+1)=k∧g.t (m+2*k+1)=n) {v:Nat} (hv:v<n):∀ j,j≤n→Ee g x (m+2*j) v=Ee g x m v+if v<j then x (m+2*v) - x (m+2*v+1) else 0
 | 0,_=>by rw [if_neg (by omega)]; simp
 | j+1,hj=>by
  obtain ⟨⟨h1,h2⟩,h3,h4⟩:=hE j (by omega)
  rw [show m+2*(j+1)=m+2*j+1+1 by omega,G8,G8,h1,h2,h3,h4,QW hE hv j (by omega),EB (show ¬ n=v by omega)]
  by_cases e:j=v
  ·subst e
   rw [ET rfl,if_neg (by omega),if_pos (by omega)]; omega
  ·rw [EB e]
   by_cases h:v<j
   ·rw [if_pos h,if_pos (by omega)]; omega
   ·rw [if_neg h,if_neg (by omega)]; omega
theorem Nl {N:Int} {es:List Ed} {i:Nat} {e:Ed} (h:es[i]? = some e):(grE N es).f i=e.f.toNat:=by show (es.getD i e0).f.toNat=_; rw [Bn h]
theorem Nm {N:Int} {es:List Ed} {i:Nat} {e:Ed} (h:es[i]? = some e):(grE N es).t i=e.t.toNat:=by show (es.getD i e0).t.toNat=_; rw [Bn h]
theorem Nn {N:Int} {es:List Ed} {i:Nat} {e:Ed} (h:es[i]? = some e):(grE N es).co i=e.cost:=by show (es.getD i e0).cost=_; rw [Bn h]
/-- What is paid to a bank, less what it pays. -/
def byK (rs:List Int) (os:List Du) (net:Bool) (fl:List Int) (k:Nat):Int:=Ee (grE ((rs.length+1:Nat):Int) (BF rs os net)) (flE fl) os.length k
theorem Xm {rs:List Int} {os:List Du} {net:Bool} {fl:List Int} (hrs:∀ x∈rs,0≤x) (hos:∀ d∈os,OH rs.length d) (hf:Es ((rs.length+1:Nat):Int) (BF rs os net) fl=true) :
  PayIn os (fl.take os.length)∧fl.length=(BF rs os net).length∧(∀ (k:Nat) (r:Int),rs[k]? = some r→(net=true→byK rs os net fl k=0) ∧ -r≤byK rs os net fl k∧byK rs os net fl k≤4503599627370496)∧B7 (byK rs os net fl) rs.length=0:=by
 obtain ⟨hw,hz⟩:=Gj hf
 obtain ⟨hl,hr,hin⟩:=BZ hw
 have hlen:=Fc rs os net
 refine ⟨⟨by rw [List.length_take]; omega,fun i d x hd hx=>?_⟩,hl,fun k r hk=>?_,?_⟩
 ·have hi:=Cr hd
  rw [List.getElem?_take,if_pos hi] at hx
  exact hin i (Fu d) x (G3 hd) hx
 ·have hkn:=Cr hk
  have h0:=hz k (by omega)
  have hE:(grE ((rs.length+1:Nat):Int) (BF rs os net)).E=(BF rs os net).length:=rfl
  unfold BA at h0
  rw [hE,hlen] at h0
  have hr0:=hrs r (List.mem_of_getElem? hk)
  cases net with
  | true =>
   rw [if_pos rfl,Nat.add_zero] at h0
   have h0':byK rs os true fl k=0:=h0
   exact ⟨fun _=>h0',by omega,by omega⟩
  | false =>
   rw [if_neg (by decide),QW (x:=flE fl) (n:=rs.length) (fun j hj=>?_) hkn rs.length (Nat.le_refl _),if_pos hkn] at h0
   ·obtain ⟨y,hy⟩:=A0 (l:=fl) (i:=os.length+2*k) (by rw [hl,hlen,if_neg (by decide)]; omega)
    obtain ⟨z,hzz⟩:=A0 (l:=fl) (i:=os.length+2*k+1) (by rw [hl,hlen,if_neg (by decide)]; omega)
    have h1:=hin _ _ y (Ht (Ic hk)) hy
    have h2:=hin _ _ z (by rw [Nat.add_assoc]; exact Ht (JF hkn)) hzz
    rw [show flE fl (os.length+2*k)=y from Bn hy,show flE fl (os.length+2*k+1)=z from Bn hzz] at h0
    have h0':byK rs os false fl k+(y - z)=0:=h0
    dsimp only at h1 h2
    exact ⟨(fun h=>by cases h),by omega,by omega⟩
   ·obtain ⟨r',hr'⟩:=A0 hj
    have e1:(BF rs os false)[os.length+2*j]? = _:=Ht (Ic hr')
    have e2:(BF rs os false)[os.length+2*j+1]? = some ⟨j,rs.length,4503599627370496,0⟩:=by rw [Nat.add_assoc]; exact Ht (JF hj)
    rw [Nl e1,Nm e1,Nl e2,Nm e2]
    dsimp only
    omega
 ·have:=over_all ⟨rs.length,os.length,(grE ((rs.length+1:Nat):Int) (BF rs os net)).f,(grE ((rs.length+1:Nat):Int) (BF rs os net)).t,fun _=>0⟩ ⟨fun i hi=>?_,fun i hi=>?_⟩ (flE fl)
  ·exact this
  ·obtain ⟨d,hd⟩:=A0 (l:=os) (i:=i) hi
   obtain ⟨h1,h2,h3⟩:=hos d (List.mem_of_getElem? hd)
   have:=E5 h1
   dsimp only
   rw [Nl (G3 hd)]
   unfold Fu
   dsimp only
   omega
  ·obtain ⟨d,hd⟩:=A0 (l:=os) (i:=i) hi
   obtain ⟨h1,h2,h3⟩:=hos d (List.mem_of_getElem? hd)
   have:=E5 h1
   dsimp only
   rw [Nm (G3 hd)]
   unfold Fu
   dsimp only
   omega
theorem UY {xs ys:List Int} (hl:xs.length=ys.length) (hx:∀ x∈xs,Di x=true) (hy:∀ y∈ys,E4 y=true) (hs:CO ys=0) (hz:∀ z∈Ct xs ys,Di z=true):CA xs ys=0:=by
 unfold CA F2
 rw [decide_eq_true hl,List.all_eq_true.2 hx,List.all_eq_true.2 hy,decide_eq_true hs,if_neg (by decide),if_neg,if_neg]
 ·rw [List.all_eq_true.2 hz]; decide
 ·rw [List.all_eq_true.2 fun z h=>decide_eq_true (Da.1 (hz z h)).1]; decide
theorem Np:∀ {xs ys:List Int},xs.length=ys.length→CO (Ct xs ys)=CO xs+CO ys
 | [],[],_=>rfl
 | [],_::_,h=>by cases h
 | _::_,[],h=>by cases h
 | x::xs,y::ys,h=>by
  have ih:=Np (xs:=xs) (ys:=ys) (by simpa using h)
  show CO ((x+y)::Ct xs ys)=_
  rw [CF,CF,CF,ih]; omega
theorem Xn {xs:List Int} (h:∀ x∈xs,0≤x):∀ x∈xs,x≤CO xs:=by
 induction xs with
 | nil=>intro x hx; cases hx
 | cons y xs ih =>
  intro x hx
  rw [CF]
  have h0:=h y (List.mem_cons_self ..)
  have h1:=F1 fun z hz=>h z (List.mem_cons_of_mem _ hz)
  rcases List.mem_cons.1 hx with rfl | hx
  ·omega
  ·have:=ih (fun z hz=>h z (List.mem_cons_of_mem _ hz)) x hx
   omega
theorem Dy {acs:List Ac}:DB acs=0↔acs.length≤16∧(∀ a∈acs,F3 a=true)∧(Fg (acs.map Ac.ba)).2=0:=by
 unfold DB
 by_cases h1:16<acs.length
 ·rw [if_pos h1]; exact ⟨fun h=>by simp at h,fun h=>absurd h.1 (by omega)⟩
 rw [if_neg h1]
 cases h2:acs.all F3 with
 | false =>
  rw [if_pos rfl]
  refine ⟨fun h=>by simp at h,fun h=>?_⟩
  rw [List.all_eq_true.2 h.2.1] at h2; cases h2
 | true =>
  rw [if_neg (by decide)]
  rw [List.all_eq_true] at h2
  exact ⟨fun h=>⟨by omega,h2,h⟩,fun h=>h.2.2⟩
theorem Ig {a:Ac}:F3 a=true↔(0≤a.ba∧a.ba≤4503599627370496)∧0≤a.re∧a.re≤4503599627370496:=by
 unfold F3; rw [Bool.and_eq_true,Da,Da]
theorem TR {acs:List Ac} {by':Nat→Int} (hs:CA (acs.map Ac.ba) (tab by' acs.length)=0) {k:Nat} {a:Ac} (hk:acs[k]? = some a):(shA acs (tab by' acs.length))[k]? = some ⟨a.ba+by' k,a.re⟩:=by
 unfold shA
 rw [if_pos hs,List.getElem?_zipWith,hk,BN (Cr hk)]
theorem PE {acs:List Ac} {by':Nat→Int}:(shA acs (tab by' acs.length)).length=acs.length:=by
 unfold shA
 split
 ·rw [List.length_zipWith,CQ]; omega
 ·rfl
theorem Hu {acs:List Ac} {by':Nat→Int} (ha:DB acs=0) (hb:∀ (k:Nat) (a:Ac),acs[k]? = some a → -(Ce a)≤by' k∧by' k≤4503599627370496) (hs:B7 by' acs.length=0) :
  CA (acs.map Ac.ba) (tab by' acs.length)=0∧DB (shA acs (tab by' acs.length))=0:=by
 obtain ⟨h1,h2,h3⟩:=Dy.1 ha
 obtain ⟨h4,h5⟩:=FU.1 h3
 have hl:(acs.map Ac.ba).length=(tab by' acs.length).length:=by rw [List.length_map,CQ]
 have hsum:CO (tab by' acs.length)=0:=by rw [QG]; exact hs
 have hat:∀ z∈Ct (acs.map Ac.ba) (tab by' acs.length),∃ k a,acs[k]? = some a∧z=a.ba+by' k:=fun z hz=>by
  obtain ⟨k,hk⟩:=List.mem_iff_getElem?.1 hz
  have hkl:=Cr hk
  unfold Ct at hkl
  rw [List.length_zipWith,List.length_map,CQ] at hkl
  obtain ⟨a,hka⟩:=A0 (l:=acs) (i:=k) (by omega)
  rw [Ha (x:=a.ba) (y:=by' k) (by rw [List.getElem?_map,hka]; rfl) (BN (by omega))] at hk
  injection hk with hk
  exact ⟨k,a,hka,hk.symm⟩
 have hnn:∀ z∈Ct (acs.map Ac.ba) (tab by' acs.length),0≤z:=fun z hz=>by
  obtain ⟨k,a,hk,rfl⟩:=hat z hz
  have:=hb k a hk
  have h6:=Ig.1 (h2 a (List.mem_of_getElem? hk))
  unfold Ce at this
  omega
 have htot:=Np hl
 rw [hsum] at htot
 have hmay:∀ z∈Ct (acs.map Ac.ba) (tab by' acs.length),Di z=true:=fun z hz=>by
  have:=Xn hnn z hz
  exact Da.2 ⟨hnn z hz,by omega⟩
 have hC:CA (acs.map Ac.ba) (tab by' acs.length)=0:=by
  refine UY hl h4 (fun y hy=>?_) hsum hmay
  obtain ⟨k,hk⟩:=List.mem_iff_getElem?.1 hy
  obtain ⟨hkl,rfl⟩:=Li hk
  obtain ⟨a,hka⟩:=A0 (l:=acs) (i:=k) hkl
  have:=hb k a hka
  have h6:=Ig.1 (h2 a (List.mem_of_getElem? hka))
  unfold Ce at this
  unfold E4
  rw [Bool.and_eq_true,decide_eq_true_eq,decide_eq_true_eq]
  omega
 have hmap:(shA acs (tab by' acs.length)).map Ac.ba=Ct (acs.map Ac.ba) (tab by' acs.length):=by
  unfold shA Ct
  rw [if_pos hC,List.map_zipWith,List.zipWith_map_left]
 refine ⟨hC,Dy.2 ⟨by rw [PE]; exact h1,fun a' ha'=>?_,FU.2 ⟨by rw [hmap]; exact hmay,by rw [hmap]; omega⟩⟩⟩
 obtain ⟨k,hk⟩:=List.mem_iff_getElem?.1 ha'
 have hkl:=Cr hk
 rw [PE] at hkl
 obtain ⟨a,hka⟩:=A0 (l:=acs) (i:=k) hkl
 have h7:=TR hC hka
 rw [h7] at hk
 injection hk with hk
 subst hk
 have h8:Di (a.ba+by' k)=true:=hmay _ (List.mem_of_getElem? (i:=k) (Ha (by rw [List.getElem?_map,hka]; rfl) (BN hkl)))
 unfold F3 at *
 rw [Bool.and_eq_true]
 have:=h2 a (List.mem_of_getElem? hka)
 rw [Bool.and_eq_true] at this
 exact ⟨h8,this.2⟩
/-- What a round that may be built says. -/
structure Bright (rs:List Int) (ds:List Du):Prop where
 n16:rs.length≤16
 may:∀ x∈rs,Di x=true
 m64:ds.length≤64
 due:∀ d∈ds,OH rs.length d
 tot:CO (ds.map Du.am)≤4503599627370496
theorem EV {rs:List Int} {ds:List Du} (hl:ds.length≤1000000):CD rs ds=true↔Bright rs ds:=by
 rw [← Xg rs ds hl]
 unfold UV
 simp only [Bool.and_eq_true,decide_eq_true_eq,List.all_eq_true,LP]
 constructor
 ·rintro ⟨⟨h1,h2⟩,h3,h4,h5⟩
  exact ⟨h1,h3,h2,fun d hd=>⟨(h4 d hd).1,(h4 d hd).2.1,(h4 d hd).2.2⟩,(FU.1 h5).2⟩
 ·rintro ⟨h1,h3,h2,h4,h5⟩
  refine ⟨⟨h1,h2⟩,h3,fun d hd=>⟨(h4 d hd).1,(h4 d hd).2.1,(h4 d hd).2.2⟩,FU.2 ⟨fun x hx=>?_,h5⟩⟩
  obtain ⟨d,hd,rfl⟩:=List.mem_map.1 hx
  have:=(E5 (h4 d hd).1).2.2.2.1
  exact Da.2 ⟨by omega,this.2⟩
theorem Mg {ds:List Du} {d:Du} (h:d∈opn ds):d∈ds∧d.held=false:=by
 unfold opn at h
 rw [List.mem_filter] at h
 exact ⟨h.1,by simpa using h.2⟩
theorem G4 (ds:List Du):(opn ds).length≤ds.length:=List.length_filter_le _ _
theorem YF {ds:List Du} (h:∀ d∈ds,0≤d.am):CO ((opn ds).map Du.am)≤CO (ds.map Du.am):=by
 induction ds with
 | nil=>exact Int.le_refl _
 | cons d ds ih =>
  have h0:=h d (List.mem_cons_self ..)
  have ih:=ih fun e he=>h e (List.mem_cons_of_mem _ he)
  rw [FH,List.map_cons,CF]
  split
  ·rw [List.nil_append]; omega
  ·show CO (d.am::(opn ds).map Du.am)≤_
   rw [CF]; omega
theorem Bright.open' {rs:List Int} {ds:List Du} (h:Bright rs ds):Bright rs (opn ds) :=
 ⟨h.n16,h.may,Nat.le_trans (G4 ds) h.m64,fun d hd=>h.due d (Mg hd).1,Int.le_trans (YF fun d hd=>by have:=(E5 (h.due d hd).1).2.2.2.1; omega) h.tot⟩
theorem Bright.right {rs:List Int} {ds:List Du} (h:Bright rs ds) (net:Bool):Cb ((rs.length+1:Nat):Int) (BF rs (opn ds) net)=true :=
 UX h.n16 h.open'.m64 h.may h.open'.due h.open'.tot
/-- Accounts and dues that may be make a round as soon as there are the banks. -/
theorem Nq {acs:List Ac} {ds:List Du} {nx:Int} (ha:DB acs=0) (hd:ofC ds nx=0) (hb:∀ d∈ds,d.fr<acs.length∧d.to<acs.length):Bright (acs.map Ce) ds:=by
 obtain ⟨h1,h2,h3⟩:=Dy.1 ha
 obtain ⟨h4,h5,h6,h7⟩:=D7.1 hd
 refine ⟨by rw [List.length_map]; exact h1,fun x hx=>?_,h4,fun d hd'=>⟨(SB hd hd').2.2,by rw [List.length_map]; exact (hb d hd').1,by rw [List.length_map]; exact (hb d hd').2⟩,(FU.1 h7).2⟩
 obtain ⟨a,ha',rfl⟩:=List.mem_map.1 hx
 have:=Ig.1 (h2 a ha')
 unfold Ce
 exact Da.2 ⟨by omega,by omega⟩
end Go.Proofs.YtapphbmlkdhnmaaGreat
