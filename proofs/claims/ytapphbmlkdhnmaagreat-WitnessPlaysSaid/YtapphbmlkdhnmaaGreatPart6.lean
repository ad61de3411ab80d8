/- Part 6 of the proof. -/
import Derived.Test.YtapphbmlkdhnmaaGreatPart2
import Derived.Test.YtapphbmlkdhnmaaGreatPart5
import Derived.Test.YtapphbmlkdhnmaaGreatPart4
import Derived.Test.YtapphbmlkdhnmaaGreatPart3
/- Shortest ways: where they begin, and each node's last arc: the walks. -/
namespace Go.Proofs.YtapphbmlkdhnmaaGreat
open Go.GV
attribute [local irreducible] AC W Wq Wt

abbrev NBl (od n:Nat) (s:Lb) (bh:Nat) (a:Option Addr) (hn c:Nat) (full:List Value):List (Nat × Obj):=(od,Bl 2 (B9 s.d n))::HB bh a hn c full
def I2 (src:List Nat):List Tg:=src.map fun v=>(0,v)
theorem QY {src:List Nat} {i v:Nat} (h:src[i]? = some v) (x:Nat):(lb0 (src.take (i+1))).d x=if x=v then 0 else (lb0 (src.take i)).d x:=by
 unfold lb0;dsimp only;rw [D5 h]
 by_cases e:x=v
 ·subst e; simp
 ·simp [e]

set_option maxRecDepth 20000 in
set_option maxHeartbeats 4000000 in
theorem Xs {w:World} {bf oo od oh ob n:Nat} {bh:Nat} {c:Nat} {src:List Nat} {fr:Option Addr} {fc:Nat} (H0:Ctx w ((NBl od n (lb0 []) bh none 0 c []).map (·.1)) w (NBl od n (lb0 []) bh none 0 c [])) (O:OS none 0 c 2 [] (([]:List Tg).flatMap EA))
  (hf:w.heap[bf]? = some (Bl 224 (FB oo od oh ob n))) (hfn:bf∉(NBl od n (lb0 []) bh none 0 c []).map (·.1)) (R:Rd w fr 1 I1 (src.map fun v:Nat=>(v:Int))) (hRn:src≠[]→(adr fr).block∉(NBl od n (lb0 []) bh none 0 c []).map (·.1)) (hn6:n≤1000000) (hsrc:∀ v∈src,v<n) (hnd:src.Nodup) (hsl:src.length≤1000000) :
  Ret Tryz.prog 191 #[ptr bf,ptr bh,.slice fr src.length fc] w fun v w'=>v = .bool (decide (0<src.length))∧∃ (a':Option Addr) (c':Nat) (full':List Value) (L':List Tg),L'.Perm (I2 src)∧HeapL L'∧OS a' src.length c' 2 full' (L'.flatMap EA)∧Ctx w ((NBl od n (lb0 []) bh none 0 c []).map (·.1)) w' (NBl od n (lb0 src) bh a' src.length c' full'):=by
 obtain ⟨w0,rfl⟩:∃ w0,w0=w:=⟨_,rfl⟩;obtain ⟨ids,hids⟩:∃ ids,ids=(NBl od n (lb0 []) bh none 0 c []).map (·.1):=⟨_,rfl⟩;rw [← hids] at H0 hfn hRn ⊢;have H:=H0;refine A2 (fn:=Tryz.f191) Tryz.func191 U [.pointer (some ⟨bf,0,none⟩),.pointer (some ⟨bh,0,none⟩),.slice fr src.length fc] U (by kernel_rfl) ?_;refine Ag (Ai U U (Ab (Aa (Aq (Ag (Ap U U (AV U Eb U (Ae U U (Ab (Aa (Av ?_)))))))))));refine Bd 17592186042688 (α:=Option Addr × Nat × List Value × List Tg × Nat) (fun t=>[(11,.int .i64 (t.2.2.2.2:Int))]) (fun t w'=>t.2.2.2.2≤src.length∧t.2.2.2.1.Perm (I2 (src.take t.2.2.2.2))∧HeapL t.2.2.2.1∧OS t.1 t.2.2.2.2 t.2.1 2 t.2.2.1 (t.2.2.2.1.flatMap EA)∧Ctx w0 ids w' (NBl od n (lb0 (src.take t.2.2.2.2)) bh t.1 t.2.2.2.2 t.2.1 t.2.2.1)) (fun t=>src.length - t.2.2.2.2) (none,c,[],[],0) U ?_ ?_ ?_
 ·exact ⟨rfl,trivial⟩
 ·exact ⟨Nat.zero_le _,.refl _,fun i x y _ h=>(by cases h),O,H⟩
 ·rintro ⟨a,c,full,L,i⟩ j w ⟨hi,hp,hH,O,H⟩; dsimp only at hi hp hH O H; dsimp only;refine Ag (AO U U U (Ab (Aa (Aq (Ay _ U ?_ ?_)))))
  ·intro h1;replace h1:=AG h1;obtain ⟨v,hv⟩:=AE (l:=src) (i:=i) (by omega);have hvn:=hsrc v (List.mem_of_getElem? hv);have hvm:(src.map fun v:Nat=>(v:Int))[i]? = some (v:Int):=by rw [List.getElem?_map,hv]; rfl
   have hne:src≠[]:=fun h=>by rw [h] at hv; cases hv
   have hnot:v∉src.take i:=fun hm=>by
    obtain ⟨k,hk⟩:=List.getElem?_of_mem hm;rw [List.getElem?_take] at hk
    split at hk
    ·have hkl:=CO hk;obtain ⟨h1,h2⟩:=List.getElem?_eq_some_iff.1 hk;obtain ⟨h3,h4⟩:=List.getElem?_eq_some_iff.1 hv;have:=(List.getElem_inj hnd).1 (h2.trans h4.symm);omega
    ·cases hk
   have hdv:(lb0 (src.take i)).d v = -1:=if_neg hnot;have hlm:(src.map fun v:Nat=>(v:Int)).length=src.length:=by rw [List.length_map]
   have hgd:(tab (lb0 (src.take i)).d n)[v]? = some (-1):=by rw [BZ hvn,hdv]
   refine Ax (Aa (Aq (Av (Ag (AX R U Eb EV U U (by omega) (by omega) (by omega) ?_)))));refine AY U BG U (((R.ext H.ext (hRn hne)).fld hvm U (j:=0) U)) ?_;refine Ad U U (Ab (Aa (Aq (Ag (Ae U U (AO U U U (Ak U U (A4 17 U ?_ ?_))))))))
   ·intro h2;replace h2:=AG h2;omega
   ·intro h2;replace h2:=AH h2;refine Ae U U (Ba U U (AZ U U (Ah U Eh U (AY U BC U ((by rw [Au (H.ext.to hf hfn)]; rfl)) ?_))));refine AV U AU U (CQ U U U (A1 U U (.bool _) U (Ab (Aa (Ay _ U ?_ ?_)))))
    ·intro h3;replace h3:=AG h3;omega
    ·intro h3;replace h3:=AH h3;refine Ax (Aa (Ag (Ba U U (AZ U U (Ah U Eh U (AY U BC U ((by rw [Au (H.ext.to hf hfn)]; rfl)) ?_))))));refine Ae U U (Bi U AU Bz U U (by omega) (by omega) ?_);refine AY U Bx U (((Cu (H.get at0)).fld hgd U (j:=0) U)) ?_;refine CC U U U (Ab (Aa (Ay _ U ?_ ?_)))
     ·intro h4;replace h4:=CK h4;refine Ag (Ba U U (AZ U U (Ah U Eh U (AY U BC U ((by rw [Au (H.ext.to hf hfn)]; rfl)) ?_))));refine Ae U U (Bi U AU Bz U U (by omega) (by omega) ?_);refine Cc v (fun q => .int .i64 ((lb0 (src.take (i+1))).d q)) (.int _ _) U Bz U U U H at0 (by simp) (by omega) (by rw [QY hv,if_pos rfl]) (fun q _ hq=>by rw [QY hv,if_neg hq]) ?_;rintro w H;refine Ab (Aa (Aw (Ba U U (Ae U U ?_))));have Hc:=Ctx.comm (L:=[_]) (L':=HB bh a i c full) H;refine Al U WF (Ug (Ctx.lend (L1:=HB bh a i c full) (L2:=[_]) Hc) O (by omega) hH 0 v) U ?_;rintro rv w ⟨rfl,a',c',f',L2,hp2,hH2,O2,H2⟩;replace H:=Ctx.comm (L:=HB bh a' (i+1) c' f') (L':=[_]) (Ctx.back (L1:=HB bh a i c full) (L2:=[_]) Hc H2);refine Ab (A3 (Aa (Aw (Ao U U U (by omega) (by omega) ?_))));refine Ae U U (Ab (Aa ?_));refine ⟨(a',c',f',L2,i+1),rfl,⟨rfl,trivial⟩,⟨by dsimp only; omega,?_,hH2,O2,H⟩,by dsimp only; omega⟩
      dsimp only;unfold I2 at hp ⊢;rw [D5 hv,List.map_append];exact hp2.trans ((hp.cons _).trans (List.perm_append_singleton _ _).symm)
     ·intro h4;replace h4:=CL h4;omega
  ·intro h1;replace h1:=AH h1;refine Bc (Aj (Aj (AD (Aa (Ag (Ap U U (AV U Eb U (Ct U U U (Ai U U (Ab (Aa (A9 (AF (v:=(.bool _)) U U U ?_)))))))))))));obtain rfl:i=src.length:=by omega
   rw [List.take_length] at hp H;exact ⟨congrArg Value.bool (by rw [Bool.eq_iff_iff]; simp),a,c,full,L,hp,hH,O,H⟩

/-- An arc over which a best way may come. -/
def KE (g:Gr) (p:Nat→Int) (s:Lb) (a:Nat):Prop:=s.d (g.u a) ≠ -1∧s.h (g.v a)≠0∧s.d (g.u a)+g.len p a=s.d (g.v a)∧s.h (g.u a)+1=s.h (g.v a)
/-- What is known of each node's last arc, of those that were looked at. -/
structure BI (g:Gr) (p:Nat→Int) (s:Lb) (all done:Nat→Prop) (by':Nat→Int):Prop where
 val:∀ v,by' v = -1∨∃ a:Nat,by' v=(a:Int)∧all a∧KE g p s a∧g.v a=v
 in':∀ a,done a→KE g p s a→by' (g.v a) ≠ -1
theorem BI.skip {g:Gr} {p:Nat→Int} {s:Lb} {all done:Nat→Prop} {by':Nat→Int} (B:BI g p s all done by') {a:Nat} (h:¬ KE g p s a∨by' (g.v a) ≠ -1):BI g p s all (fun x=>x=a∨done x) by' :=
 ⟨B.val,fun x hx hg=>by
  rcases hx with rfl | hx
  ·exact h.resolve_left fun h=>h hg
  ·exact B.in' x hx hg⟩
theorem BI.put {g:Gr} {p:Nat→Int} {s:Lb} {all done:Nat→Prop} {by':Nat→Int} (B:BI g p s all done by') {a:Nat} (ha:all a) (hg:KE g p s a):BI g p s all (fun x=>x=a∨done x) (upd by' (g.v a) (a:Int)):=by
 refine ⟨fun v=>?_,fun x hx hgx=>?_⟩
 ·by_cases e:v=g.v a
  ·subst e; exact .inr ⟨a,D3 _ _ _,ha,hg,rfl⟩
  ·rw [Es e]; exact B.val v
 ·by_cases e:g.v x=g.v a
  ·rw [e,D3]; omega
  ·rw [Es e]
   rcases hx with rfl | hx
   ·exact absurd U e
   ·exact B.in' x hx hgx
theorem BI.congr {g:Gr} {p:Nat→Int} {s:Lb} {all done done':Nat→Prop} {by':Nat→Int} (B:BI g p s all done by') (h:∀ x,done' x→done x):BI g p s all done' by':=⟨B.val,fun a ha=>B.in' a (h a ha)⟩

set_option maxRecDepth 20000 in
set_option maxHeartbeats 8000000 in
theorem Xt {w:World} {bf oo od oh ob n:Nat} {s:Lb} {g:Gr} {p:Nat→Int} {outs:List Value} {outL:Nat→List Nat} (hb:w.heap[ob]? = some (Bl 3 (B9 (fun _ => -1) n))) (hf:w.heap[bf]? = some (Bl 224 (FB oo od oh ob n))) (hd:w.heap[od]? = some (Bl 2 (B9 s.d n))) (hh:w.heap[oh]? = some (Bl 3 (B9 (NH s) n))) (ho:w.heap[oo]? = some (Bl 230 outs))
  (nf:bf≠ob) (nd:od≠ob) (nh:oh≠ob) (no:oo≠ob) (hn6:n≤1000000) (hsd:∀ v,-1≤s.d v∧s.d v≤1152921504606846976∧s.h v≤1000000)
  (hout:∀ u,u<n→∃ au cu,outs[u]? = some (.slice au (outL u).length cu)∧Rd w au 4 (Gn g p) (outL u)∧(outL u≠[]→(adr au).block≠ob)∧(outL u).length≤1000000∧∀ x∈outL u,g.u x=u∧g.v x<n ∧ -1152921504606846976≤g.len p x∧g.len p x≤1152921504606846976∧x≤1000000) :
  Ret Tryz.prog 195 #[ptr bf] w fun v w'=>v = .tuple #[]∧∃ by':Nat→Int,BI g p s (fun a=>a∈outL (g.u a)) (fun a=>g.u a<n∧a∈outL (g.u a)) by'∧Ctx w [ob] w' [(ob,Bl 3 (B9 by' n))]:=by
 obtain ⟨w0,rfl⟩:∃ w0,w0=w:=⟨_,rfl⟩;have H:=Ctx.start1 hb;have nf':bf∉[ob]:=by rw [List.mem_singleton]; exact nf
 have nd':od∉[ob]:=by rw [List.mem_singleton]; exact nd
 have nh':oh∉[ob]:=by rw [List.mem_singleton]; exact nh
 have no':oo∉[ob]:=by rw [List.mem_singleton]; exact no
 refine A2 (fn:=Tryz.f195) Tryz.func195 U [.pointer (some ⟨bf,0,none⟩)] U (by kernel_rfl) ?_;refine Ag (Ba U U (AZ U U (Ah U K4 U (AY U Pz U ((by rw [Au hf]; rfl)) ?_))));refine AV U Li U (Ae U U (Ab (Aa (Av (Bd 649037107316853453566312041148524 (α:=Nat × (Nat→Int)) (fun t=>[(12,.int .i64 (t.1:Int))]) (fun t w'=>t.1≤n∧BI g p s (fun a=>a∈outL (g.u a)) (fun a=>g.u a<t.1∧a∈outL (g.u a)) t.2∧Ctx w0 [ob] w' [(ob,Bl 3 (B9 t.2 n))]) (fun t=>n - t.1) (0,fun _ => -1) U ?_ ?_ ?_)))))
 ·exact ⟨rfl,trivial⟩
 ·exact ⟨Nat.zero_le _,⟨fun v => .inl rfl,fun a h=>absurd h.1 (Nat.not_lt_zero _)⟩,H⟩
 ·rintro ⟨u,by'⟩ j w ⟨hi,B,H⟩; dsimp only at hi B H; dsimp only;refine Ag (AO U U U (Ab (Aa (Aq (Ay _ U ?_ ?_)))))
  ·intro h1;replace h1:=AG h1;obtain ⟨au,cu,hou,R,hRn,hul,hx7⟩:=hout u (by omega);refine Ax (Aa (Aq (Av (Ag (Ae U U (Bi U Li Lj U U (by omega) (by omega) ?_))))));refine AY U S7 U ((by rw [Au (H.ext.to ho no')]; simpa using hou)) ?_;refine Ad U U (A5 U U (Ab (Aa (Ag (Ap U U (AV U Kd U (Ae U U (Ab (Aa (Av ?_))))))))));obtain ⟨La,hLa⟩:∃ La,La=outL u:=⟨_,rfl⟩;rw [← hLa] at R hRn hul hx7 ⊢;refine Bd 324518553658426726783156020052064 (α:=Nat × (Nat→Int)) (fun t=>[(19,.int .i64 (t.1:Int))]) (fun t w'=>t.1≤La.length∧BI g p s (fun a=>a∈outL (g.u a)) (fun a=>(g.u a<u∧a∈outL (g.u a))∨a∈La.take t.1) t.2∧Ctx w0 [ob] w' [(ob,Bl 3 (B9 t.2 n))]) (fun t=>La.length - t.1) (0,by') U ?_ ?_ ?_
   ·exact ⟨rfl,trivial⟩
   ·exact ⟨Nat.zero_le _,B.congr (fun x hx=>hx.elim id fun h=>by simp at h),H⟩
   ·rintro ⟨i,by'⟩ j2 w ⟨hi2,B,H⟩; dsimp only at hi2 B H; dsimp only;refine Ag (AO U U U (Ab (Aa (Aq (Ay _ U ?_ ?_)))))
    ·intro h2;replace h2:=AG h2;obtain ⟨x,hxa⟩:=AE (l:=La) (i:=i) (by omega);obtain ⟨hxu,hxv,hl1,hl2,hx6⟩:=hx7 x (List.mem_of_getElem? hxa);obtain ⟨v,hv⟩:∃ v,v=g.v x:=⟨_,rfl⟩;obtain ⟨ln,hln⟩:∃ ln,ln=g.len p x:=⟨_,rfl⟩;have hrow:Gn g p x=[.int .i64 (x:Int),.int .i64 (u:Int),.int .i64 (v:Int),.int .i64 ln]:=by unfold Gn; rw [hxu,hv,hln]
     rw [← hv] at hxv;rw [← hln] at hl1 hl2;have hne:La≠[]:=fun h=>by rw [h] at hxa; cases hxa
     have hau:(adr au).block∉[ob]:=by rw [List.mem_singleton]; exact hRn hne
     have hun:u<n:=by omega
     obtain ⟨du,hdu⟩:∃ du,du=s.d u:=⟨_,rfl⟩;obtain ⟨hu,hhu⟩:∃ hu,hu=s.h u:=⟨_,rfl⟩;obtain ⟨dv,hdv⟩:∃ dv,dv=s.d v:=⟨_,rfl⟩;obtain ⟨hw,hhw⟩:∃ hw,hw=s.h v:=⟨_,rfl⟩;have hgdu:(tab s.d n)[u]? = some du:=by rw [BZ hun,hdu]
     have hghu:(tab (NH s) n)[u]? = some (hu:Int):=by rw [BZ hun,hhu]; rfl
     have hgdv:(tab s.d n)[v]? = some dv:=by rw [BZ hxv,hdv]
     have hghv:(tab (NH s) n)[v]? = some (hw:Int):=by rw [BZ hxv,hhw]; rfl
     have hbu:=hsd u;rw [← hdu,← hhu] at hbu
     have hgo:KE g p s x↔(du ≠ -1∧hw≠0∧du+ln=dv∧hu+1=hw):=by
      unfold KE;rw [hxu,← hv,← hln,← hdu,← hhu,← hdv,← hhw]
     have hall:x∈outL (g.u x):=by rw [hxu,← hLa]; exact List.mem_of_getElem? hxa
     have hsub:∀ y,((g.u y<u∧y∈outL (g.u y))∨y∈La.take (i+1))→y=x∨((g.u y<u∧y∈outL (g.u y))∨y∈La.take i):=fun y hy=>by
      rcases hy with hy | hy
      ·exact .inr (.inl hy)
      ·rw [D5 hxa] at hy
       rcases List.mem_append.1 hy with hy | hy
       ·exact .inr (.inr hy)
       ·exact .inl (List.mem_singleton.1 hy)
     have RD:=Cu hd;have RH:=Cu hh;refine Ax (Aa (Aq (Av (Ag (AX R U Kd GM U U (by omega) (by omega) (by rfl) ?_)))));refine Cd _ U S6 GM U U (Rd.rowE (R.ext H.ext hau) hxa hrow U) ?_;refine Bs U IY H ?_;rintro b5 w - H;refine BL U GM U U U (by simp [B4]) H at0 U ?_;rintro w H;refine Ab (Aa (Aq (DC 4835703278458516690436096 (α:=Unit) (fun _=>[(81,.bool (!decide (du ≠ -1∧hw≠0∧du+ln=dv∧hu+1=hw)))]) (fun _ w'=>Ctx w0 [ob] w' [(b5,Bl 229 [.int .i64 (x:Int),.int .i64 (u:Int),.int .i64 (v:Int),.int .i64 ln]),(ob,Bl 3 (B9 by' n))]) U ?_ ?_)))
     ·skip
      refine Pq (fun x=>x=_) B0 (by kernel_rfl) U ?_;refine Cl U U (Bm U U (A7 U Eh U (Ch U BC U (by rintro _ rfl; exact ((by rw [Au (H.drew.ext.to hf nf')]; rfl))) ?_)));refine AN U U (AR U AU Bz U U (by omega) (by omega) ?_);refine Ch U Bx U (by rintro _ rfl; exact (((RD.ext H.drew.ext nd').fld hgdu rfl (j:=0) rfl))) ?_;refine TI U U U (DB U U (Dz 31 U ?_ ?_))
      ·intro h1;replace h1:=AG h1;refine A0 U (A0 U (A0 U (A0 U (A0 U (A0 U (A0 U (A0 U (A0 U (Il U U (.bool _) U ?_)))))))));refine DB U U (A0 U (A0 U (A0 U (A0 U (A0 U (A0 U (A0 U (A0 U (A0 U ?_)))))))));refine A0 U (A0 U (A0 U (A0 U (A0 U (A0 U (A0 U (A0 U (A0 U (A0 U ?_)))))))));refine Il U U (.bool _) U (DB U U (A0 U (A0 U (A0 U (A0 U (A0 U (A0 U (A0 U (A0 U ?_)))))))));refine A0 U (A0 U (A0 U (A0 U (A0 U (A0 U (A0 U (A0 U (A0 U (Il U U (.bool _) U ?_)))))))));refine Ca ?_;rintro _ rfl;replace H:=H.drew;refine Aa ?_;exact ⟨(),rfl,⟨congrArg Value.bool (by clear hgdu hghu hgdv hghv hgo hdu hhu hdv hhw; rw [Bool.eq_iff_iff]; simp_all; try omega),trivial⟩,H⟩
      ·intro h2;replace h2:=AH h2;refine Cl U U (Bm U U (A7 U GL U (Ch U FG U (by rintro _ rfl; exact ((by rw [Au (H.drew.ext.to hf nf')]; rfl))) ?_)));refine A7 U Fc U (Ce U BG U (by rintro _ rfl; exact H.drew) at0 U ?_);refine AR U Eb EV U U (by omega) (by omega) ?_;refine Ch U BG U (by rintro _ rfl; exact (((RH.ext H.drew.ext nh').fld hghv rfl (j:=0) rfl))) ?_;refine TI U U U (LP U U (.bool _) U (DB U U (Dz 42 U ?_ ?_)))
       ·intro h3;replace h3:=AG h3;refine A0 U (A0 U (A0 U (A0 U (A0 U (A0 U (A0 U (A0 U (A0 U (A0 U ?_)))))))));refine A0 U (A0 U (A0 U (A0 U (A0 U (A0 U (A0 U (A0 U (A0 U (Il U U (.bool _) U ?_)))))))));refine DB U U (A0 U (A0 U (A0 U (A0 U (A0 U (A0 U (A0 U (A0 U (A0 U ?_)))))))));refine A0 U (A0 U (A0 U (A0 U (A0 U (A0 U (A0 U (A0 U (Il U U (.bool _) U (Ca ?_)))))))));rintro _ rfl;replace H:=H.drew;refine Aa ?_;exact ⟨(),rfl,⟨congrArg Value.bool (by clear hgdu hghu hgdv hghv hgo hdu hhu hdv hhw; rw [Bool.eq_iff_iff]; simp_all; try omega),trivial⟩,H⟩
       ·intro h4;replace h4:=AH h4;refine Cl U U (Bm U U (A7 U Eh U (Ch U BC U (by rintro _ rfl; exact ((by rw [Au (H.drew.ext.to hf nf')]; rfl))) ?_)));refine AN U U (AR U AU Bz U U (by omega) (by omega) ?_);refine Ch U Bx U (by rintro _ rfl; exact (((RD.ext H.drew.ext nd').fld hgdu rfl (j:=0) rfl))) ?_;refine A7 U MU U (Ce U Bx U (by rintro _ rfl; exact H.drew) at0 U ?_);refine CU U U U (by omega) (by omega) ?_;refine Cl U U (Bm U U (A7 U Eh U (Ch U BC U (by rintro _ rfl; exact ((by rw [Au (H.drew.ext.to hf nf')]; rfl))) ?_)));refine A7 U Fc U (Ce U BG U (by rintro _ rfl; exact H.drew) at0 U ?_);refine AR U AU Bz U U (by omega) (by omega) ?_;refine Ch U Bx U (by rintro _ rfl; exact (((RD.ext H.drew.ext nd').fld hgdv rfl (j:=0) rfl))) ?_;refine Mx U U U (LP U U (.bool _) U (DB U U (Dz 63 U ?_ ?_)))
        ·intro h5;replace h5:=CK h5;refine A0 U (A0 U (A0 U (A0 U (A0 U (A0 U (A0 U (A0 U (A0 U (A0 U ?_)))))))));refine A0 U (A0 U (A0 U (A0 U (A0 U (A0 U (A0 U (Il U U (.bool _) U (Ca ?_))))))));rintro _ rfl;replace H:=H.drew;refine Aa ?_;exact ⟨(),rfl,⟨congrArg Value.bool (by clear hgdu hghu hgdv hghv hgo hdu hhu hdv hhw; rw [Bool.eq_iff_iff]; simp_all; try omega),trivial⟩,H⟩
        ·intro h6;replace h6:=CL h6;refine Cl U U (Bm U U (A7 U GL U (Ch U FG U (by rintro _ rfl; exact ((by rw [Au (H.drew.ext.to hf nf')]; rfl))) ?_)));refine AN U U (AR U Eb EV U U (by omega) (by omega) ?_);refine Ch U BG U (by rintro _ rfl; exact (((RH.ext H.drew.ext nh').fld hghu rfl (j:=0) rfl))) ?_;refine CU U U U (by omega) (by omega) ?_;refine Cl U U (Bm U U (A7 U GL U (Ch U FG U (by rintro _ rfl; exact ((by rw [Au (H.drew.ext.to hf nf')]; rfl))) ?_)));refine A7 U Fc U (Ce U BG U (by rintro _ rfl; exact H.drew) at0 U ?_);refine AR U Eb EV U U (by omega) (by omega) ?_;refine Ch U BG U (by rintro _ rfl; exact (((RH.ext H.drew.ext nh').fld hghv rfl (j:=0) rfl))) ?_;refine Mx U U U (LP U U (.bool _) U (Ca ?_));rintro _ rfl;replace H:=H.drew;refine Aa ?_
         exact ⟨(),rfl,⟨congrArg Value.bool (by clear hgdu hghu hgdv hghv hgo hdu hhu hdv hhw; rw [Bool.eq_iff_iff]; simp_all; try omega),trivial⟩,H⟩
     ·rintro - j6 w H;refine Ay _ U ?_ ?_
      ·intro h3;have hng:¬ KE g p s x:=by rw [hgo]; exact of_decide_eq_false (by simpa only [Bool.not_eq_true'] using h3)
       refine Bc (Aj (AD (Aa (Aw (Ao U U U (by omega) (by omega) ?_)))));refine Ae U U (Ab (Aa ?_));exact ⟨(i+1,by'),rfl,⟨rfl,trivial⟩,⟨by dsimp only; omega,(B.skip (.inl hng)).congr hsub,H.tail⟩,by dsimp only; omega⟩
      ·intro h3;have hg:KE g p s x:=by rw [hgo]; simpa using h3
       have hgb:(tab by' n)[v]? = some (by' v):=BZ hxv;have hnot:by' v ≠ -1→BI g p s (fun a=>a∈outL (g.u a)) (fun a=>(g.u a<u∧a∈outL (g.u a))∨a∈La.take (i+1)) by':=fun h=>(B.skip (.inr (hv ▸ h))).congr hsub
       refine Ax (Aa (DQ (fun x=>x=_) B0 (by kernel_rfl) U ?_));refine Cl U U (Bm U U (A7 U IW U (Ch U FG U (by rintro _ rfl; exact ((by rw [Au (H.drew.ext.to hf nf')]; rfl))) ?_)));refine A7 U Fc U (Ce U BG U (by rintro _ rfl; exact H.drew) at0 U ?_);refine AR U Eb EV U U (by omega) (by omega) ?_;refine Ch U BG U (by rintro _ rfl; exact (((Cu (H.drew.get at1)).fld hgb rfl (j:=0) rfl))) ?_;refine Cm U U (Ca ?_);rintro _ rfl;replace H:=H.drew;refine Ag (Ae U U (BQ U U U (Ak U U (A4 92 U ?_ ?_))))
       ·intro h4;replace h4:=AG h4;refine Af U (Af U (Af U (Af U (An U U (.bool _) U (Ab (Aa (Dc U (EG [([0,1,2,3,4,5,6,7,8],9)] (fun z=>z.heap[bf]? = some (Bl 224 (FB oo od oh ob n))∧z.heap[b5]? = some (Bl 229 [.int .i64 (x:Int),.int .i64 (u:Int),.int .i64 (v:Int),.int .i64 ln])) [9] B0 (by kernel_rfl) (⟨H.drew.ext.to hf nf',H.drew.get at0⟩) ?_))))))));refine AL U U ?_;refine Dd U U (B6 U U (AJ U IW U (BM U FG U (fun _ hx=>(by rw [Au hx.1]; rfl)) ?_)));refine AJ U Fc U (BM U BG U (fun _ hx=>(by rw [Au hx.2]; rfl)) ?_);refine AJ U MT U (BM U BG U (fun _ hx=>(by rw [Au hx.2]; rfl)) ?_);refine AK U Eb EV U U (by omega) (by omega) ?_;refine Bu ?_;replace H:=H.drew;refine Cc v (fun q => .int .i64 (upd by' v (x:Int) q)) (.int _ _) U EV U U U H at1 (by simp) (by omega) (by rw [D3]) (fun q _ hq=>by rw [Es hq]) ?_;rintro w H
        refine Ab (Cg U (BS (A3 (Aa (Aw (Ao U U U (by omega) (by omega) ?_))))));refine Ae U U (Ab (Aa ?_));exact ⟨(i+1,upd by' v (x:Int)),rfl,⟨rfl,trivial⟩,⟨by dsimp only; omega,(hv ▸ B.put hall hg).congr hsub,H.tail⟩,by dsimp only; omega⟩
       ·intro h4;replace h4:=AH h4;refine Ah U MT U (AA U BG U H at0 U (Ae U U (AO U U U (A1 U U (.bool _) U (Ab (Aa (Ay _ U ?_ ?_)))))))
        ·intro h5;replace h5:=AG h5;refine EG [([0,1,2,3,4,5,6,7,8],9)] (fun z=>z.heap[bf]? = some (Bl 224 (FB oo od oh ob n))∧z.heap[b5]? = some (Bl 229 [.int .i64 (x:Int),.int .i64 (u:Int),.int .i64 (v:Int),.int .i64 ln])) [9] B0 (by kernel_rfl) (⟨H.drew.ext.to hf nf',H.drew.get at0⟩) ?_;refine AL U U ?_;refine Dd U U (B6 U U (AJ U IW U (BM U FG U (fun _ hx=>(by rw [Au hx.1]; rfl)) ?_)));refine AJ U Fc U (BM U BG U (fun _ hx=>(by rw [Au hx.2]; rfl)) ?_);refine AJ U MT U (BM U BG U (fun _ hx=>(by rw [Au hx.2]; rfl)) ?_);refine AK U Eb EV U U (by omega) (by omega) ?_;refine Bu ?_;replace H:=H.drew;refine Cc v (fun q => .int .i64 (upd by' v (x:Int) q)) (.int _ _) U EV U U U H at1 (by simp) (by omega) (by rw [D3]) (fun q _ hq=>by rw [Es hq]) ?_;rintro w H;refine Ab (Cg U (BS (A3 (Aa (Aw (Ao U U U (by omega) (by omega) ?_))))));refine Ae U U (Ab (Aa ?_))
         exact ⟨(i+1,upd by' v (x:Int)),rfl,⟨rfl,trivial⟩,⟨by dsimp only; omega,(hv ▸ B.put hall hg).congr hsub,H.tail⟩,by dsimp only; omega⟩
        ·intro h5;replace h5:=AH h5;refine Ax (A3 (Aa (Aw (Ao U U U (by omega) (by omega) ?_))));refine Ae U U (Ab (Aa ?_));exact ⟨(i+1,by'),rfl,⟨rfl,trivial⟩,⟨by dsimp only; omega,hnot h4,H.tail⟩,by dsimp only; omega⟩
    ·intro h2;replace h2:=AH h2;refine Bc (Aj (Aj (AD (A3 (Aa (Aw (Ao U U U (by omega) (by omega) ?_)))))));refine Ae U U (Ab (Aa ?_));have hiL:i=La.length:=by omega
     refine ⟨(u+1,by'),rfl,⟨rfl,trivial⟩,⟨by dsimp only; omega,B.congr fun y hy=>?_,H⟩,by dsimp only; omega⟩;rw [hiL,List.take_length]
     rcases Nat.lt_or_ge (g.u y) u with h7 | h7
     ·exact .inl ⟨h7,hy.2⟩
     ·have hyu:g.u y=u:=by have:=hy.1; dsimp only at this; omega
      exact .inr (by rw [hLa,← hyu]; exact hy.2)
  ·intro h1;replace h1:=AH h1;refine Bc (Aj (Aj (AD (Db U U ?_))));obtain rfl:u=n:=by omega
   exact ⟨rfl,by',B,H⟩

end Go.Proofs.YtapphbmlkdhnmaaGreat

/- The arcs that leave each node, in arrays of their own. -/
namespace Go.Proofs.YtapphbmlkdhnmaaGreat
open Go.GV
attribute [local irreducible] AC W Wq Wt

structure Slo where
 a:Option Addr
 n:Nat
 c:Nat
 full:List Value
def sloV (s:Slo):Value := .slice s.a s.n s.c
abbrev Ki (s:Slo):List (Nat × Obj):=ent s.a 229 s.full
abbrev Ve (nn:Nat) (st:Nat→Slo):List Value:=(List.range nn).map fun u=>sloV (st u)
/-- The table of the arrays, and the arrays. oth: blocks that are none of theirs. -/
structure OutR (w0 w:World) (oo nn:Nat) (g:Gr) (p:Nat→Int) (st:Nat→Slo) (sel:Nat→List Nat) (oth:Nat→Prop):Prop where
 tbl:w.heap[oo]? = some (Bl 230 (Ve nn st))
 os:∀ u,u<nn→OS (st u).a (st u).n (st u).c 4 (st u).full ((sel u).flatMap (Gn g p))
 blk:∀ u,u<nn→∀ y∈Ki (st u),w.heap[y.1]? = some y.2∧w0.heap.size≤y.1∧¬ oth y.1∧y.1≠oo
 ne:∀ u v,u<nn→v<nn→u≠v→∀ y∈Ki (st u),∀ z∈Ki (st v),y.1≠z.1
def Ni (oo nn:Nat) (st:Nat→Slo):Mt:=fun x=>x=oo∨∃ u,u<nn∧∃ y∈Ki (st u),y.1=x
theorem OutR.keep {w0 w w':World} {oo nn:Nat} {g:Gr} {p:Nat→Int} {st:Nat→Slo} {sel:Nat→List Nat} {oth:Nat→Prop} (R:OutR w0 w oo nn g p st sel oth) {S:List Nat} (h:Ext S w w') (hS:∀ x∈S,¬ Ni oo nn st x):OutR w0 w' oo nn g p st sel oth :=
 ⟨h.to R.tbl fun hm=>hS _ hm (.inl rfl),R.os,fun u hu y hy=>⟨h.to (R.blk u hu y hy).1 fun hm=>hS _ hm (.inr ⟨u,hu,y,hy,rfl⟩),(R.blk u hu y hy).2⟩,R.ne⟩
def stS (st:Nat→Slo) (u:Nat) (s:Slo):Nat→Slo:=fun q=>if q=u then s else st q
theorem GU (st:Nat→Slo) (u:Nat) (s:Slo):stS st u s u=s:=if_pos rfl
theorem Jh {st:Nat→Slo} {u:Nat} {s:Slo} {q:Nat} (h:q≠u):stS st u s q=st q:=if_neg h
theorem OutR.step {w0 w w':World} {oo nn:Nat} {g:Gr} {p:Nat→Int} {st:Nat→Slo} {sel sel':Nat→List Nat} {oth:Nat→Prop} (R:OutR w0 w oo nn g p st sel oth) {u:Nat} (hu:u<nn) {s:Slo} (hoth:∀ x,oth x→x<w.heap.size) (h0:w0.heap.size≤w.heap.size)
  (H:Ctx w ((oo::(Ki (st u)).map (·.1))) w' ((oo,Bl 230 (Ve nn (stS st u s)))::Ki s)) (O:OS s.a s.n s.c 4 s.full ((sel' u).flatMap (Gn g p))) (hsel:∀ q,q≠u→sel' q=sel q) :
  OutR w0 w' oo nn g p (stS st u s) sel' oth∧∀ x,Ni oo nn (stS st u s) x→Ni oo nn st x∨w.heap.size≤x:=by
 have hlt:∀ q,q<nn→∀ y∈Ki (st q),y.1<w.heap.size:=fun q hq y hy=>B2 (R.blk q hq y hy).1;have hoo:=B2 R.tbl;have hnd:=(List.pairwise_cons.1 H.nd).1
 have hnew:∀ y∈Ki s,(∃ z∈Ki (st u),z.1=y.1)∨w.heap.size≤y.1:=fun y hy=>by
  rcases H.own y (List.mem_cons_of_mem _ hy) with h | h
  ·rcases List.mem_cons.1 h with h | h
   ·exact absurd h.symm (hnd y hy)
   ·obtain ⟨z,hz,he⟩:=List.mem_map.1 h;exact .inl ⟨z,hz,he⟩
  ·exact .inr h
 have hout:∀ q,q<nn→q≠u→∀ y∈Ki (st q),y.1∉oo::(Ki (st u)).map (·.1):=fun q hq hqu y hy hm=>by
  rcases List.mem_cons.1 hm with h | h
  ·exact (R.blk q hq y hy).2.2.2 h
  ·obtain ⟨z,hz,he⟩:=List.mem_map.1 h;exact R.ne q u hq hu hqu y hy z hz he.symm
 refine ⟨⟨H.get at0,fun q hq=>?_,fun q hq y hy=>?_,fun q v hq hv hqv y hy z hz=>?_⟩,fun x hx=>?_⟩
 ·by_cases e:q=u
  ·subst e; rw [GU]; exact O
  ·rw [Jh e,hsel q e]; exact R.os q hq
 ·by_cases e:q=u
  ·subst e;rw [GU] at hy;refine ⟨H.blk y (List.mem_cons_of_mem _ hy),?_,?_,fun h=>hnd y hy h.symm⟩
   ·rcases hnew y hy with ⟨z,hz,he⟩ | h
    ·rw [← he]; exact (R.blk q hq z hz).2.1
    ·omega
   ·rcases hnew y hy with ⟨z,hz,he⟩ | h
    ·rw [← he]; exact (R.blk q hq z hz).2.2.1
    ·exact fun ho=>by have:=hoth _ ho; omega
  ·rw [Jh e] at hy;obtain ⟨h1,h2,h3,h4⟩:=R.blk q hq y hy;exact ⟨H.ext.to h1 (hout q hq e y hy),h2,h3,h4⟩
 ·by_cases e:q=u
  ·subst e;rw [GU] at hy;rw [Jh (Ne.symm hqv)] at hz
   rcases hnew y hy with ⟨t,ht,he⟩ | h
   ·rw [← he]; exact R.ne q v hq hv hqv t ht z hz
   ·have:=hlt v hv z hz; omega
  ·rw [Jh e] at hy
   by_cases e2:v=u
   ·subst e2;rw [GU] at hz
    rcases hnew z hz with ⟨t,ht,he⟩ | h
    ·rw [← he]; exact R.ne q v hq hv hqv y hy t ht
    ·have:=hlt q hq y hy; omega
   ·rw [Jh e2] at hz;exact R.ne q v hq hv hqv y hy z hz
 ·rcases hx with h | ⟨q,hq,y,hy,rfl⟩
  ·exact .inl (.inl h)
  ·by_cases e:q=u
   ·subst e;rw [GU] at hy
    rcases hnew y hy with ⟨t,ht,he⟩ | h
    ·exact .inl (.inr ⟨q,hq,t,ht,he⟩)
    ·exact .inr h
   ·rw [Jh e] at hy;exact .inl (.inr ⟨q,hq,y,hy,rfl⟩)
/-- What may be lent of it for one node. -/
theorem OutR.ctx {w0 w:World} {oo nn:Nat} {g:Gr} {p:Nat→Int} {st:Nat→Slo} {sel:Nat→List Nat} {oth:Nat→Prop} (R:OutR w0 w oo nn g p st sel oth) {u:Nat} (hu:u<nn):Ctx w (oo::(Ki (st u)).map (·.1)) w ((oo,Bl 230 (Ve nn st))::Ki (st u)):=by
 refine ⟨.refl _ _,fun x hx=>?_,List.pairwise_cons.2 ⟨fun y hy h=>(R.blk u hu y hy).2.2.2 h.symm,Lc⟩,fun x hx => .inl ?_⟩
 ·rcases List.mem_cons.1 hx with rfl | hx
  ·exact R.tbl
  ·exact (R.blk u hu x hx).1
 ·rcases List.mem_cons.1 hx with rfl | hx
  ·exact List.mem_cons_self ..
  ·exact List.mem_cons_of_mem _ (List.mem_map.2 ⟨x,hx,rfl⟩)
def HU (g:Gr) (l:List Nat) (u:Nat):List Nat:=l.filter fun a=>decide (g.u a=u)
theorem Vf {g:Gr} {l:List Nat} {i a:Nat} (h:l[i]? = some a):HU g (l.take (i+1)) (g.u a)=HU g (l.take i) (g.u a)++[a]∧∀ q,q≠g.u a→HU g (l.take (i+1)) q=HU g (l.take i) q:=by
 unfold HU;rw [D5 h];refine ⟨by rw [List.filter_append]; congr 1; rw [List.filter_cons,decide_eq_true rfl]; rfl,fun q hq=>?_⟩;rw [List.filter_append,List.filter_cons,decide_eq_false (Ne.symm hq)];simp

end Go.Proofs.YtapphbmlkdhnmaaGreat

/- Plain law of shortest ways: what the labels and the last arcs tell in the end; how long the heap may get. -/
namespace Go.Proofs.YtapphbmlkdhnmaaGreat
open Go.GV

theorem Aea {g:Gr} {cap x p:Nat→Int} {src:List Nat} {n:Nat} {m:Int} {s:Lb} {by':Nat→Int} {all done:Nat→Prop} (D:Done (LH g cap x p) src n m s) (hA:PE (LH g cap x p) n m) (B:BI g p s all done by') (hall:∀ a,all a→a<2*g.E∧0<CE cap x a) (hdone:∀ a,a<2*g.E→0<CE cap x a→done a) :
  Bys g cap x p s fun v=>if by' v = -1 then none else some (by' v).toNat:=by
 have hmem:∀ a,a<2*g.E→0<CE cap x a→(g.u a,g.v a,g.len p a)∈LH g cap x p:=fun a h1 h2=>Jc.2 ⟨a,h1,h2,rfl⟩;refine ⟨fun v hv=>?_,fun v hd hh=>?_⟩
 ·dsimp only
  by_cases e:by' v = -1
  ·rw [if_pos e]
  ·exfalso
   rcases B.val v with h | ⟨a,_,ha,⟨h1,h2,h3,h4⟩,hva⟩
   ·exact e h
   ·obtain ⟨ha1,ha2⟩:=hall a ha;have hl:=(hA _ (hmem a ha1 ha2)).2.2.1;dsimp only at hl;rw [hva] at h2 h3
    rcases hv with hv | hv
    ·have:=D.J.low (g.u a);omega
    ·exact h2 hv
 ·obtain ⟨b,hb,hbv,hb1,hb2,hb3⟩:=D.pre v hd hh;obtain ⟨a,ha1,ha2,rfl⟩:=Jc.1 hb;dsimp only at hbv hb1 hb2 hb3;have hg:KE g p s a:=⟨hb1,by rw [hbv]; exact hh,by rw [hbv]; exact hb2,by rw [hbv]; exact hb3⟩;have hne:=B.in' a (hdone a ha1 ha2) hg;rw [hbv] at hne
  rcases B.val v with h | ⟨a',hby,ha',⟨h1,h2,h3,h4⟩,hva⟩
  ·exact absurd h hne
  ·obtain ⟨q1,q2⟩:=hall a' ha';refine ⟨a',by dsimp only; rw [if_neg hne,hby]; rfl,⟨q1,q2,h1,by rw [hva]; exact hd,h3,h4⟩,hva⟩
theorem Vg {n:Nat} {A:List Ar} {src:List Nat} {d:Int} (hd:0≤d) (hA:∀ v,v<n→HT A v≤d):psi n A (-1) (lb0 src) (I2 src)≤src.length+n*(d*(n+1)):=by
 have hg:∀ v,gv n (-1) (lb0 src) (I2 src) v=(n:Int)+1:=fun v=>by
  unfold gv;rw [if_neg];rintro ⟨h1,h2⟩;unfold lb0 at h1 h2;dsimp only at h1 h2
  split at h1 <;> split at h2 <;> omega
 have h1:=Ja (f:=fun v=>HT A v*gv n (-1) (lb0 src) (I2 src) v) (g:=fun _=>d*((n:Int)+1)) (k:=n) fun i hi=>by
  rw [hg]; exact Int.mul_le_mul_of_nonneg_right (hA i hi) (by omega)
 have h2:∀ (c:Int) (k:Nat),B7 (fun _=>c) k=k*c:=fun c k=>by
  induction k with
  | zero=>show (0:Int)=((0:Nat):Int)*c; rw [show ((0:Nat):Int)=0 from rfl,Int.zero_mul]
  | succ k ih =>
   show B7 (fun _=>c) k+c=_;rw [ih,Int.natCast_add,Int.add_mul]; simp
 rw [h2] at h1;unfold psi I2;rw [List.length_map];have h3:B7 (fun v=>HT A v*gv n (-1) (lb0 src) (List.map (fun v=>((0:Int),v)) src) v) n≤(n:Int)*(d*((n:Int)+1)):=h1;omega

theorem Uj {A:List Ar} {src:List Nat} {n:Nat} {m D:Int} {u:Nat} (hA:PE A n m) (hm:0≤m) (hn:n≤60) (hD:0≤D):∀ (l dn:List Ar) (s:Lb) (hp:List Tg),DJ A src n m s→Clo A s hp u dn→(∀ a∈l,a∈A∧a.1=u)→s.d u=D→PI n D s hp →
  DJ A src n m (l.foldl I0 (s,hp)).1∧Clo A (l.foldl I0 (s,hp)).1 (l.foldl I0 (s,hp)).2 u (dn++l)∧(l.foldl I0 (s,hp)).1.d u=D∧PI n D (l.foldl I0 (s,hp)).1 (l.foldl I0 (s,hp)).2∧psi n A D (l.foldl I0 (s,hp)).1 (l.foldl I0 (s,hp)).2≤psi n A D s hp+l.length
 | [],dn,s,hp,J,K,_,hu,P=>⟨J,by simpa using K,hu,P,by simp⟩
 | a::l,dn,s,hp,J,K,hl,hu,P=>by
  obtain ⟨ha,hau⟩:=hl a (List.mem_cons_self ..);obtain ⟨J1,K1,h1,h2,-⟩:=DJ.relax hA hm hn J K ha hau (by rw [hu]; omega);obtain ⟨P1,h3⟩:=P.relax (A:=A) (a:=a) (by rw [hau]; exact hu) hD (hA a ha).2.2.1 J.low fun h=>J1.hops h;obtain ⟨r1,r2,r3,r4,r5⟩:=Uj hA hm hn hD l (dn++[a]) (Gl s a) (Hw s a hp) J1 K1 (fun b hb=>hl b (List.mem_cons_of_mem _ hb)) (by rw [h1]; exact hu) P1;rw [List.append_assoc] at r2;refine ⟨r1,r2,r3,r4,?_⟩;rw [List.length_cons,List.foldl_cons];have h4:I0 (s,hp) a=(Gl s a,Hw s a hp):=rfl;rw [h4];omega

end Go.Proofs.YtapphbmlkdhnmaaGreat

/- Plain law of shortest ways: the main loop's invariant; numbers that fit. -/
namespace Go.Proofs.YtapphbmlkdhnmaaGreat
open Go.GV

/-- What holds between two rounds. -/
structure MI (A:List Ar) (src:List Nat) (n:Nat) (m D:Int) (s:Lb) (hp:List Tg):Prop where
 dj:DJ A src n m s
 clo:Clo A s hp 0 A
 pi:PI n D s hp
theorem Clo.any {A:List Ar} {s:Lb} {hp:List Tg} {u:Nat} (K:Clo A s hp u A) (v:Nat):Clo A s hp v A:=fun x hx=>(K x hx).imp id fun h a ha hax _=>h a ha hax fun _=>ha
theorem Clo.perm {A:List Ar} {s:Lb} {hp hq:List Tg} {u:Nat} {dn:List Ar} (K:Clo A s hp u dn) (h:hp.Perm hq):Clo A s hq u dn:=fun x hx=>(K x hx).imp (fun h'=>h.mem_iff.1 h') id
theorem MI.perm {A:List Ar} {src:List Nat} {n:Nat} {m D:Int} {s:Lb} {hp hq:List Tg} (M:MI A src n m D s hp) (h:hp.Perm hq):MI A src n m D s hq:=⟨M.dj,M.clo.perm h,M.pi.perm h⟩
theorem MI.start {A:List Ar} {src:List Nat} {n:Nat} {m:Int} (hs:∀ v∈src,v<n) (hnd:src.Nodup):MI A src n m (-1) (lb0 src) (I2 src):=by
 refine ⟨DJ.start hs,fun v hv=>?_,fun t ht=>?_,fun t ht=>?_,fun v hv=>?_⟩
 ·have hm:v∈src:=by
   rcases Decidable.em (v∈src) with h | h
   ·exact h
   ·exact absurd (if_neg h) hv
  have:(lb0 src).d v=0:=if_pos hm;rw [this];exact .inl (List.mem_map.2 ⟨v,hm,rfl⟩)
 ·obtain ⟨v,_,rfl⟩:=List.mem_map.1 ht;show (-1:Int)≤0;omega
 ·obtain ⟨v,hv,rfl⟩:=List.mem_map.1 ht;have:(lb0 src).d v=0:=if_pos hv;dsimp only;rw [this];omega
 ·have hm:v∈src:=by
   rcases Decidable.em (v∈src) with h | h
   ·exact h
   ·exact absurd (if_neg h) hv
  have h1:(I2 src).Nodup:=List.Pairwise.map _ (fun a b h e=>h (Prod.mk.inj e).2) hnd;have h2:=List.nodup_iff_count.1 h1 ((lb0 src).d v,v);have h3:=hs v hm;show _+0≤n;omega
section
variable {A:List Ar} {src:List Nat} {n:Nat} {m D:Int} {s:Lb} {hp:List Tg} {t:Tg}
theorem MI.lt (hA:PE A n m) (M:MI A src n m D s hp) {v:Nat} (hv:s.d v ≠ -1):v<n:=by
 by_cases h:s.h v=0
 ·exact (M.dj.src' v (M.dj.zero v hv h)).1
 ·obtain ⟨a,ha,h1,_⟩:=M.dj.pre v hv h;rw [← h1];exact (hA a ha).2.1
theorem MI.top (hA:PE A n m) (M:MI A src n m D s (t::hp)):t.2<n:=M.lt hA (M.pi.item t (List.mem_cons_self ..)).1
theorem MI.drop (hA:PE A n m) (M:MI A src n m D s (t::hp)) (hmin:∀ x∈hp,t.1≤x.1) (hne:t.1≠s.d t.2):MI A src n m t.1 s hp∧psi n A t.1 s hp+1≤psi n A D s (t::hp):=by
 obtain ⟨P1,h1,-⟩:=M.pi.pop (A:=A) hmin (M.top hA);refine ⟨⟨M.dj,fun v hv=>(M.clo v hv).imp (fun h=>?_) id,P1⟩,h1⟩
 rcases List.mem_cons.1 h with h | h
 ·exact absurd (by rw [← h]) hne
 ·exact h
theorem MI.key0 (M:MI A src n m D s (t::hp)) (he:t.1=s.d t.2):0≤t.1:=by
 have h1:=(M.pi.item t (List.mem_cons_self ..)).1;have:=M.dj.low t.2;omega
theorem MI.go (hA:PE A n m) (hm:0≤m) (hn:n≤60) (M:MI A src n m D s (t::hp)) (hmin:∀ x∈hp,t.1≤x.1) (he:t.1=s.d t.2) {l l1:List Ar} (hl:A.filter (fun a=>decide (a.1=t.2))=l++l1) :
  DJ A src n m (l.foldl I0 (s,hp)).1∧(l1=[]→MI A src n m t.1 (l.foldl I0 (s,hp)).1 (l.foldl I0 (s,hp)).2∧psi n A t.1 (l.foldl I0 (s,hp)).1 (l.foldl I0 (s,hp)).2+1≤psi n A D s (t::hp)):=by
 obtain ⟨P1,-,h1⟩:=M.pi.pop (A:=A) hmin (M.top hA)
 have hla:∀ a∈l,a∈A∧a.1=t.2:=fun a ha=>by
  have h2:a∈A.filter (fun a=>decide (a.1=t.2)):=by rw [hl]; exact List.mem_append_left _ ha
  obtain ⟨h3,h4⟩:=List.mem_filter.1 h2;exact ⟨h3,of_decide_eq_true h4⟩
 have K0:Clo A s hp t.2 []:=fun v hv=>by
  by_cases e:v=t.2
  ·exact .inr fun a _ hav hd=>by cases hd e
  ·refine (M.clo v hv).imp (fun h=>?_) fun h a ha hav _=>h a ha hav fun _=>ha
   rcases List.mem_cons.1 h with h | h
   ·exact absurd (by rw [← h]) e
   ·exact h
 obtain ⟨r1,r2,r3,r4,r5⟩:=Uj hA hm hn (M.key0 he) l [] s hp M.dj K0 hla he.symm P1;refine ⟨r1,fun hl1=>?_⟩;rw [hl1,List.append_nil] at hl
 have KK:Clo A (l.foldl I0 (s,hp)).1 (l.foldl I0 (s,hp)).2 t.2 A:=fun v hv=>(r2 v hv).imp id fun h a ha hav hd=>h a ha hav fun e=>by
  rw [List.nil_append,← hl];exact List.mem_filter.2 ⟨ha,decide_eq_true (hav.trans e)⟩
 refine ⟨⟨r1,KK.any 0,r4⟩,?_⟩;have h2:=h1 he;have h3:HT A t.2=(l.length:Nat):=by unfold HT; rw [hl]
 omega
theorem MI.ends (M:MI A src n m D s []):Done A src n m s:=M.dj.ends M.clo
end
theorem Xu (g:Gr) (cap x p:Nat→Int):LH g cap x p=(Eu cap x g.E).map (Iz g p):=rfl
theorem QZ (g:Gr) (cap x p:Nat→Int) (u:Nat):(LH g cap x p).filter (fun a=>decide (a.1=u))=(HU g (Eu cap x g.E) u).map (Iz g p):=by
 rw [Xu,List.filter_map]; rfl

/-- Numbers that fit, as the program asks for them. -/
theorem PK {N:Int} {es:List Ed} {fl pot:List Int} (h:Hm N es fl pot=true):Fine (grE N es) (Cv es) (flE fl) (EB pot):=by
 unfold Hm at h;simp only [Bool.and_eq_true] at h;obtain ⟨hw,_,ha⟩:=h;obtain ⟨h1,_,h2⟩:=BN hw;refine ⟨fun i hi=>?_,fun a ha' hr=>?_⟩
 ·obtain ⟨e,he⟩:=AE (l:=es) (i:=i) hi;obtain ⟨x,hx⟩:=AE (l:=fl) (i:=i) (by rw [h1]; exact hi);have:=h2 i e x he hx;unfold flE Cv;rw [Bn he,Bn hx];exact this
 ·have:=List.all_eq_true.1 ha a (List.mem_filter.2 ⟨List.mem_range.2 ha',decide_eq_true hr⟩);exact of_decide_eq_true this
theorem PL {N:Int} {es:List Ed} {fl pot:List Int} (hw:BF N es fl=true) (hp:EO N pot=true) (h:Fine (grE N es) (Cv es) (flE fl) (EB pot)):Hm N es fl pot=true:=by
 unfold Hm;rw [hw,hp,Bool.true_and,Bool.true_and];refine List.all_eq_true.2 fun a ha=>?_;obtain ⟨h1,h2⟩:=List.mem_filter.1 ha;exact decide_eq_true (h.fit a (List.mem_range.1 h1) (of_decide_eq_true h2))
theorem Zx {N:Int} {es:List Ed} {pot:List Int} (hr:Ci N es=true) {B:Int} (hB:∀ v,-B≤EB pot v∧EB pot v≤B) (a:Nat):(grE N es).len (EB pot) a≤1000+2*B ∧ -(1000+2*B)≤(grE N es).len (EB pot) a:=by
 have h1 : -1000≤(grE N es).c a∧(grE N es).c a≤1000:=by
  have h2 : -1000≤(grE N es).co (a / 2)∧(grE N es).co (a / 2)≤1000:=by
   show -1000≤(es.getD (a / 2) e0).cost∧(es.getD (a / 2) e0).cost≤1000
   rcases Nat.lt_or_ge (a / 2) es.length with h | h
   ·obtain ⟨e,he⟩:=AE (l:=es) h;have:=CY ((Cb hr).2.2.2.1 e (List.mem_of_getElem? he));rw [Bn he];omega
   ·rw [List.getD_eq_getElem?_getD,List.getElem?_eq_none h];exact ⟨by decide,by decide⟩
  unfold Gr.c
  split
  ·exact h2
  ·omega
 have h3:=hB ((grE N es).u a);have h4:=hB ((grE N es).v a);unfold Gr.len;omega
theorem Zy {N:Int} {pot:List Int} (hp:EO N pot=true) (v:Nat) : -1099511627776≤EB pot v∧EB pot v≤1099511627776:=by
 unfold EB
 rcases Nat.lt_or_ge v pot.length with h | h
 ·obtain ⟨x,hx⟩:=AE (l:=pot) h;rw [Bn hx];exact (Kh hp).2 v x hx
 ·rw [List.getD_eq_getElem?_getD,List.getElem?_eq_none h];exact ⟨by decide,by decide⟩
theorem DJ.dist {A:List Ar} {src:List Nat} {n:Nat} {m:Int} {s:Lb} (J:DJ A src n m s) (hm:0≤m) (hn:n≤60) (v:Nat) : -1≤s.d v∧s.d v≤60*m∧s.h v≤60:=by
 by_cases h:s.d v = -1
 ·have h1:=J.none' v h;have:0≤60*m:=by omega
  omega
 ·have h1:=J.hops h;have h2:=J.bnd v h;have h3:=J.low v;have h4:(s.h v:Int)*m≤60*m:=Int.mul_le_mul_of_nonneg_right (by omega) hm;omega

end Go.Proofs.YtapphbmlkdhnmaaGreat

/- The solver: where there is over, what is nearest, numbers raised: the walks. -/
namespace Go.Proofs.YtapphbmlkdhnmaaGreat
open Go.GV
attribute [local irreducible] AC W Wq Wt

abbrev SC (N:Nat) (ae:Option Addr) (n ce bf bp bo:Nat) (k:Int):List Value:=[.int .i64 (N:Int),.slice ae n ce,.slice (some ⟨bf,0,none⟩) n n,.slice (some ⟨bp,0,none⟩) N N,.slice (some ⟨bo,0,none⟩) N N,.int .i64 k]
def Hf (ov:Nat→Int) (N:Nat):List Nat:=(List.range N).filter fun v=>decide (0<ov v)
theorem Oy (ov:Nat→Int) (i:Nat):Hf ov (i+1)=Hf ov i++if 0<ov i then [i] else []:=by
 unfold Hf;rw [List.range_succ,List.filter_append]
 congr 1
 by_cases h:0<ov i <;> simp [h]
theorem Xv (ov:Nat→Int) (i:Nat):(Hf ov i).length≤i:=by
 have:=List.length_filter_le (fun v=>decide (0<ov v)) (List.range i);rw [List.length_range] at this;exact this
abbrev iN (v:Nat):Value := .int .i64 (v:Int)
structure LSt where
 i:Nat
 a:Option Addr
 c:Nat
 full:List Value

section
variable {w:World} {bs:Nat} {N:Nat} {ae:Option Addr} {n ce bf bp bo:Nat} {k:Int} {ov:Nat→Int}

set_option maxRecDepth 20000 in
theorem SY (hs:w.heap[bs]? = some (Bl 170 (SC N ae n ce bf bp bo k))) (ho:w.heap[bo]? = some (Bl 2 (B9 ov N))) (hN:N≤1000000) :
  Ret Tryz.prog 166 #[ptr bs] w fun v w'=>Fresh w w' 3 1 v ((Hf ov N).map iN):=by
 obtain ⟨w0,rfl⟩:∃ w0,w0=w:=⟨_,rfl⟩;have H:=Ctx.start w0 [];have R:=Cu ho;refine A2 (fn:=Tryz.f166) Tryz.func166 U [.pointer (some ⟨bs,0,none⟩)] U (by kernel_rfl) ?_;refine Ag (A5 U U (Ab (Aa (Ag (A5 U U (Ab (Aa (Aq (Ag (Ba U U (AZ U U ?_)))))))))));refine Ah U Gi U (AY U BC U ((by rw [Au hs]; rfl)) ?_);refine AV U AU U (Ae U U (Ab (Aa (Av (Bd 8386616 (α:=LSt) (fun t=>[(11,.int .i64 (t.i:Int)),(3,.slice t.a (Hf ov t.i).length t.c)]) (fun t w'=>t.i≤N∧OS t.a (Hf ov t.i).length t.c 1 t.full ((Hf ov t.i).map iN)∧Ctx w0 [] w' (ent t.a 3 t.full)) (fun t=>N - t.i) ⟨0,none,0,[]⟩ U ?_ ?_ ?_)))))
 ·exact ⟨rfl,rfl,trivial⟩
 ·exact ⟨Nat.zero_le _,OS.nil,H⟩
 ·rintro ⟨i,a,c,full⟩ j w ⟨hi,O,H⟩; dsimp only at hi O H; dsimp only;have hpl:=Xv ov i;refine Ag (AO U U U (Ab (Aa (Aq (Ay _ U ?_ ?_)))))
  ·intro h1;replace h1:=AG h1;have hgd:(tab ov N)[i]? = some (ov i):=BZ (by omega);refine Ax (Aa (Aq (Av (Ag (Ae U U (Bi U AU Bz U U (by omega) (by omega) ?_))))));refine AY U Bx U (((R.ext0 H.ext).fld hgd U (j:=0) U)) ?_;refine Ad U U (Ad U U (Ab (Aa (Ag (Ae U U (Ct U U U (Ab (Aa (Ay _ U ?_ ?_)))))))))
   ·intro h2;replace h2:=AG h2;have hps:Hf ov (i+1)=Hf ov i++[i]:=by rw [Oy,if_pos h2]
    refine Aw (Ap U U (Ae U U (D4 _ (.int _ _) U Eb EV QP U (by decide) (by decide) U U U H ?_)));rintro b20 w - H;refine Dr (L:=[]) U Eb Eb EV by_3 QP U (by decide) U U H O U (by simp [B4]) (by omega) ?_;rintro a' c' full' w H O;refine A5 U U (Ab (A3 (Aa (Aw (Ao U U U (by omega) (by omega) ?_)))));refine Ae U U (Ab (Aa ?_));exact ⟨⟨i+1,a',c',full'⟩,rfl,⟨rfl,by dsimp only; rw [hps,List.length_append]; rfl,trivial⟩,⟨by dsimp only; omega,by dsimp only; rw [hps,List.length_append,List.map_append]; exact O,H⟩,by dsimp only; omega⟩
   ·intro h2;replace h2:=AH h2;have hps:Hf ov (i+1)=Hf ov i:=by rw [Oy,if_neg (by omega),List.append_nil]
    refine Ax (A3 (Aa (Aw (Ao U U U (by omega) (by omega) ?_))));refine Ae U U (Ab (Aa ?_));exact ⟨⟨i+1,a,c,full⟩,rfl,⟨rfl,by dsimp only; rw [hps]; rfl,trivial⟩,⟨by dsimp only; omega,by dsimp only; rw [hps]; exact O,H⟩,by dsimp only; omega⟩
  ·intro h1;replace h1:=AH h1;refine Bc (Aj (Aj (AD (Aa (Ag (Ap U U (A5 U U (Ab (Aa (A9 (AF (v:=(.slice _ _ _)) U U U ?_)))))))))));obtain rfl:i=N:=by omega
   exact Ctx.fresh (L:=[]) H O

set_option maxRecDepth 20000 in
theorem SZ {od:Nat} {d:Nat→Int} (hs:w.heap[bs]? = some (Bl 170 (SC N ae n ce bf bp bo k))) (ho:w.heap[bo]? = some (Bl 2 (B9 ov N))) (hd:w.heap[od]? = some (Bl 2 (B9 d N))) (hN:N≤1000000) :
  Ret Tryz.prog 168 #[ptr bs,.slice (some ⟨od,0,none⟩) N N] w fun v w'=>(∃ to:Int,v = .int .i64 to∧((to = -1∧∀ u,u<N→¬ (ov u<0∧0≤d u))∨∃ x:Nat,x<N∧to=x∧ov x<0∧0≤d x))∧w=w':=by
 obtain ⟨w0,rfl⟩:∃ w0,w0=w:=⟨_,rfl⟩;have RO:=Cu ho;have RD:=Cu hd;refine A2 (fn:=Tryz.f168) Tryz.func168 U [.pointer (some ⟨bs,0,none⟩),.slice (some ⟨od,0,none⟩) N N] U (by kernel_rfl) ?_;refine Ag (Ad U U (Ab (Aa (Ag (Ad U U (Ab (Aa (Aq (Ag (Ap U U (AV U AU U ?_)))))))))));refine Ae U U (Ab (Aa (Av (Bd 2199023254752 (α:=Nat × Int) (fun t=>[(10,.int .i64 (t.1:Int)),(5,.int .i64 t.2)]) (fun t w'=>w0=w'∧t.1≤N∧((t.2 = -1∧∀ u,u<t.1→¬ (ov u<0∧0≤d u))∨∃ x:Nat,x<N∧t.2=x∧ov x<0∧0≤d x)) (fun t=>N - t.1) (0,-1) U ?_ ?_ ?_))))
 ·exact ⟨rfl,rfl,trivial⟩
 ·exact ⟨rfl,Nat.zero_le _,.inl ⟨rfl,fun u h=>absurd h (Nat.not_lt_zero _)⟩⟩
 ·rintro ⟨i,to⟩ j w ⟨rfl,hi,hto⟩; dsimp only at hi hto; dsimp only;refine Ag (AO U U U (Ab (Aa (Aq (Ay _ U ?_ ?_)))))
  ·intro h1;replace h1:=AG h1;have hgd:(tab d N)[i]? = some (d i):=BZ (by omega);have hgo:(tab ov N)[i]? = some (ov i):=BZ (by omega);have htd:=CV d N
   obtain ⟨dx,hdx⟩:∃ dx:Int,0≤to→∃ x:Nat,x<N∧to=x∧(tab d N)[x]? = some dx:=by
    rcases hto with ⟨h,_⟩ | ⟨x,hx,h,_⟩
    ·exact ⟨0,fun h7=>by omega⟩
    ·exact ⟨d x,fun _=>⟨x,hx,h,BZ hx⟩⟩
   refine Ax (Aa (Aq (Av (Ag (Ae U U (AX RD U AU Bz U U (by omega) (by omega) (by omega) ?_))))));refine AY U Bx U ((RD.fld hgd U (j:=0) U)) ?_;refine Ad U U (Ad U U (Ab (Aa (Ag (B5 (α:=Unit) 549755781120 (fun _=>[(38,.bool (decide ((ov i<0∧0≤d i)∧(to<0∨d i<dx))))]) (fun _ w'=>w'=w0) U ?_ ?_)))))
   ·refine Ba U U (AZ U U (Ah U Gi U (AY U BC U ((by rw [Au hs]; rfl)) ?_)));refine Ae U U (Bi U AU Bz U U (by omega) (by omega) ?_);refine AY U Bx U ((RO.fld hgo U (j:=0) U)) ?_;refine AO U U U (Ak U U (A4 23 U ?_ ?_))
    ·intro h1;replace h1:=AG h1;refine Ae U U (CQ U U U (An U U (.bool _) U (Ak U U (A4 27 U ?_ ?_))))
     ·intro h2;replace h2:=AG h2;refine Ae U U (AO U U U (Ak U U (A4 30 U ?_ ?_)))
      ·intro h3;replace h3:=AG h3;refine Af U (Af U (Af U (Af U (Af U (Af U (An U U (.bool _) U (An U U (.bool _) U (Ab ?_))))))));exact ⟨rfl,(),rfl,⟨congrArg Value.bool (by clear hgd hgo; rw [Bool.eq_iff_iff]; simp_all; try omega),trivial⟩,rfl⟩
      ·intro h4;replace h4:=AH h4;refine Ae U U (Ap U U (Ae U U ?_));obtain ⟨x,hx,rfl,hgx⟩:=hdx (by omega);refine AX RD U AU Bz U U (by omega) (by omega) (by omega) ?_;refine AY U Bx U (RD.fld hgx U (j:=0) U) ?_;refine AO U U U (A1 U U (.bool _) U (An U U (.bool _) U (Ab ?_)));exact ⟨rfl,(),rfl,⟨congrArg Value.bool (by clear hgd hgo; rw [Bool.eq_iff_iff]; simp_all; try omega),trivial⟩,rfl⟩
     ·intro h5;replace h5:=AH h5;refine Af U (Af U (Af U (Af U (Af U (Af U (Af U (Af U (Af U (Af U ?_)))))))));refine A1 U U (.bool _) U (Ab ?_);exact ⟨rfl,(),rfl,⟨congrArg Value.bool (by clear hgd hgo; rw [Bool.eq_iff_iff]; simp_all; try omega),trivial⟩,rfl⟩
    ·intro h6;replace h6:=AH h6;refine Af U (Af U (A1 U U (.bool _) U (Ak U U (Af U (Af U (Af U (Af U (Af U (Af U ?_)))))))));refine Af U (Af U (Af U (Af U (A1 U U (.bool _) U (Ab ?_)))));exact ⟨rfl,(),rfl,⟨congrArg Value.bool (by clear hgd hgo; rw [Bool.eq_iff_iff]; simp_all; try omega),trivial⟩,rfl⟩
   rintro - j38 w hw;subst hw;refine Ay _ U ?_ ?_
   ·intro h2;have h2:=of_decide_eq_true h2;refine Aw (Ae U U (Ad U U (Ab (A3 (Aa (Aw (Ao U U U (by omega) (by omega) ?_)))))));refine Ae U U (Ab (Aa ?_));exact ⟨(i+1,(i:Int)),rfl,⟨rfl,rfl,trivial⟩,⟨rfl,by dsimp only; omega,.inr ⟨i,by omega,rfl,h2.1⟩⟩,by dsimp only; omega⟩
   ·intro h2;have h2:=of_decide_eq_false h2;refine Ax (A3 (Aa (Aw (Ao U U U (by omega) (by omega) ?_))));refine Ae U U (Ab (Aa ?_));refine ⟨(i+1,to),rfl,⟨rfl,rfl,trivial⟩,⟨rfl,by dsimp only; omega,?_⟩,by dsimp only; omega⟩
    rcases hto with ⟨h,h7⟩ | h
    ·refine .inl ⟨h,fun u hu hh=>?_⟩;dsimp only at hu
     by_cases e:u=i
     ·subst e; exact h2 ⟨hh,.inl (by omega)⟩
     ·exact h7 u (by omega) hh
    ·exact .inr h
  ·intro h1;replace h1:=AH h1;refine Bc (Aj (Aj (AD (Aa (Ag (Ae U U (Ad U U (Ab (Aa (A9 (AF (v:=(.int _ _)) U U U ?_)))))))))));obtain rfl:i=N:=by omega
   exact ⟨⟨to,rfl,hto⟩,rfl⟩

def Nj (d:Nat→Int) (D:Int) (v:Nat):Int:=if d v<0∨D<d v then D else d v
def GW (p d:Nat→Int) (D:Int) (i v:Nat):Int:=if v<i then p v+Nj d D v else p v

set_option maxRecDepth 20000 in
theorem Xw {od:Nat} {d p:Nat→Int} {D:Int} (hs:w.heap[bs]? = some (Bl 170 (SC N ae n ce bf bp bo k))) (hp:w.heap[bp]? = some (Bl 2 (B9 p N))) (hd:w.heap[od]? = some (Bl 2 (B9 d N))) (n1:bs≠bp) (n2:od≠bp) (hN:N≤1000000)
  (hD:0≤D∧D≤1152921504606846976) (hpb:∀ v,-1152921504606846976≤p v∧p v≤1152921504606846976) :
  Ret Tryz.prog 171 #[ptr bs,.slice (some ⟨od,0,none⟩) N N,.int .i64 D] w fun v w'=>v = .tuple #[]∧Ctx w [bp] w' [(bp,Bl 2 (B9 (fun v=>p v+Nj d D v) N))]:=by
 obtain ⟨w0,rfl⟩:∃ w0,w0=w:=⟨_,rfl⟩;have H:=Ctx.start1 hp;have n1':bs∉[bp]:=by rw [List.mem_singleton]; exact n1
 have n2':od∉[bp]:=by rw [List.mem_singleton]; exact n2
 have RD:=Cu hd;refine A2 (fn:=Tryz.f171) Tryz.func171 U [.pointer (some ⟨bs,0,none⟩),.slice (some ⟨od,0,none⟩) N N,.int .i64 D] U (by kernel_rfl) ?_;refine Ag (Ap U U (AV U AU U (Ae U U (Ab (Aa (Av ?_))))));have h0:B9 p N=B9 (GW p d D 0) N:=List.map_congr_left fun v _=>by unfold GW; rw [if_neg (Nat.not_lt_zero _)]
 rw [h0] at H;refine Bd 17179868352 (α:=Nat) (fun i=>[(10,.int .i64 (i:Int))]) (fun i w'=>i≤N∧Ctx w0 [bp] w' [(bp,Bl 2 (B9 (GW p d D i) N))]) (fun i=>N - i) 0 U ?_ ?_ ?_
 ·exact ⟨rfl,trivial⟩
 ·exact ⟨Nat.zero_le _,H⟩
 ·rintro i j w ⟨hi,H⟩;refine Ag (AO U U U (Ab (Aa (Aq (Ay _ U ?_ ?_)))))
  ·intro h1;replace h1:=AG h1;have hgd:(tab d N)[i]? = some (d i):=BZ (by omega);have hgp:(tab (GW p d D i) N)[i]? = some (p i):=by rw [BZ (by omega)]; unfold GW; rw [if_neg (Nat.lt_irrefl _)]
   have hbi:=hpb i;have hsucc:∀ r,r=Nj d D i→Value.int .i64 (p i+r)=Value.int .i64 (GW p d D (i+1) i):=fun r hr=>by unfold GW; rw [if_pos (by omega),hr]
   have hoth:∀ q,q≠i→Value.int .i64 (GW p d D (i+1) q)=Value.int .i64 (GW p d D i q):=fun q hq=>by
    unfold GW
    by_cases h:q<i
    ·rw [if_pos h,if_pos (by omega)]
    ·rw [if_neg h,if_neg (by omega)]
   refine Ax (Aa (Aq (Av (Ag (Ae U U (Bi U AU Bz U U (by omega) (by omega) ?_))))));refine AY U Bx U (((RD.ext H.ext n2').fld hgd U (j:=0) U)) ?_;refine Ad U U (Ad U U (Ab (Aa (Aq (Ag (Ae U U (AO U U U (Ak U U (A4 17 U ?_ ?_)))))))))
   ·intro h1;replace h1:=AG h1;refine Af U (Af U (Af U (An U U (.bool _) U (Ab (Aa (Dc U (Aw (Ae U U (Ad U U (Ab (Aa ?_)))))))))));refine Aw (Ba U U (AZ U U (Ah U E8 U (AY U BC U ((by rw [Au (H.ext.to hs n1')]; rfl)) ?_))));refine Ae U U (Bi U AU Bz U U (by omega) (by omega) ?_);refine AY U Bx U (((Cu (H.get at0)).fld hgp U (j:=0) U)) ?_;refine Ae U U (Ao U U U (by omega) (by omega) ?_);refine Bi U AU Bz U U (by omega) (by omega) ?_;refine Cc i (fun q => .int .i64 (GW p d D (i+1) q)) (.int _ _) U Bz U U U H at0 (by simp) (by omega) (hsucc _ (by unfold Nj; (rw [if_pos (by omega)]; done))).symm (fun q _ hq=>hoth q hq) ?_;rintro w H;refine Ab (A3 (Aa (Aw (Ao U U U (by omega) (by omega) ?_))));refine Ae U U (Ab (Aa ?_));exact ⟨i+1,rfl,⟨rfl,trivial⟩,⟨by omega,H⟩,by omega⟩
   ·intro h2;replace h2:=AH h2;refine Ae U U (Ae U U (Ct U U U (A1 U U (.bool _) U (Ab (Aa (Ay _ U ?_ ?_))))))
    ·intro h3;replace h3:=AG h3;refine Aw (Ae U U (Ad U U (Ab (Aa (Aw (Ba U U (AZ U U (Ah U E8 U (AY U BC U ((by rw [Au (H.ext.to hs n1')]; rfl)) ?_)))))))));refine Ae U U (Bi U AU Bz U U (by omega) (by omega) ?_);refine AY U Bx U (((Cu (H.get at0)).fld hgp U (j:=0) U)) ?_;refine Ae U U (Ao U U U (by omega) (by omega) ?_);refine Bi U AU Bz U U (by omega) (by omega) ?_;refine Cc i (fun q => .int .i64 (GW p d D (i+1) q)) (.int _ _) U Bz U U U H at0 (by simp) (by omega) (hsucc _ (by unfold Nj; (rw [if_pos (by omega)]; done))).symm (fun q _ hq=>hoth q hq) ?_;rintro w H;refine Ab (A3 (Aa (Aw (Ao U U U (by omega) (by omega) ?_))));refine Ae U U (Ab (Aa ?_));exact ⟨i+1,rfl,⟨rfl,trivial⟩,⟨by omega,H⟩,by omega⟩
    ·intro h4;replace h4:=AH h4;refine Ax (Aa (Aw (Ba U U (AZ U U (Ah U E8 U (AY U BC U ((by rw [Au (H.ext.to hs n1')]; rfl)) ?_))))));refine Ae U U (Bi U AU Bz U U (by omega) (by omega) ?_);refine AY U Bx U (((Cu (H.get at0)).fld hgp U (j:=0) U)) ?_;refine Ae U U (Ao U U U (by omega) (by omega) ?_);refine Bi U AU Bz U U (by omega) (by omega) ?_;refine Cc i (fun q => .int .i64 (GW p d D (i+1) q)) (.int _ _) U Bz U U U H at0 (by simp) (by omega) (hsucc _ (by unfold Nj; (rw [if_neg (by omega)]; done))).symm (fun q _ hq=>hoth q hq) ?_;rintro w H;refine Ab (A3 (Aa (Aw (Ao U U U (by omega) (by omega) ?_))));refine Ae U U (Ab (Aa ?_));exact ⟨i+1,rfl,⟨rfl,trivial⟩,⟨by omega,H⟩,by omega⟩
  ·intro h1;replace h1:=AH h1;refine Bc (Aj (Aj (AD (Db U U ?_))));obtain rfl:i=N:=by omega
   have h9:B9 (GW p d D i) i=B9 (fun v=>p v+Nj d D v) i:=List.map_congr_left fun v hv=>by unfold GW; rw [if_pos (List.mem_range.1 hv)]
   rw [h9] at H;exact ⟨rfl,H⟩
end

end Go.Proofs.YtapphbmlkdhnmaaGreat

/- The solver: numbers made anew: the walks. -/
namespace Go.Proofs.YtapphbmlkdhnmaaGreat
open Go.GV
attribute [local irreducible] AC W Wq Wt

/-- The first arcs with room, at their costs. -/
def JI (g:Gr) (cap x:Nat→Int) (k:Nat):List Ar:=((List.range k).filter fun a=>decide (0<CE cap x a)).map fun a=>(g.u a,g.v a,g.c a)
theorem Vh (g:Gr) (cap x:Nat→Int) (k:Nat):JI g cap x (k+1)=JI g cap x k++if 0<CE cap x k then [(g.u k,g.v k,g.c k)] else []:=by
 unfold JI;rw [List.range_succ,List.filter_append,List.map_append]
 congr 1
 by_cases h:0<CE cap x k <;> simp [h]
theorem Xx {g:Gr} {cap x:Nat→Int} {k m:Nat} (h:k≤m):∀ a∈JI g cap x k,a∈JI g cap x m:=fun a ha=>by
 obtain ⟨b,hb,rfl⟩:=List.mem_map.1 ha;obtain ⟨h1,h2⟩:=List.mem_filter.1 hb;exact List.mem_map.2 ⟨b,List.mem_filter.2 ⟨List.mem_range.2 (by have:=List.mem_range.1 h1; omega),h2⟩,rfl⟩
theorem HV {w:World} {bs:Nat} {t:TypeId} {N:Nat} {ae:Option Addr} {n ce bf bp bo:Nat} {k:Int} (h:w.heap[bs]? = some (Bl t (SC N ae n ce bf bp bo k))):∀ j v,[Value.int .i64 (N:Int),.slice ae n ce][j]? = some v→w.cell? ⟨bs,0+j,none⟩=some v:=fun j v hv=>by
 rw [Au h,Nat.zero_add]
 match j,hv with
 | 0,hv=>exact hv
 | 1,hv=>exact hv
theorem Zz {x:Nat→Int} {n i:Nat} (h:i<n):flE (tab x n) i=x i:=by
 unfold flE; exact Bn (BZ h)
/-- An arc of a net, whole. -/
theorem Nk {N:Nat} {es:List Ed} {x:Nat→Int} (hw:BF (N:Int) es (tab x es.length)=true) {k:Nat} (hk:k<2*es.length) :
  Fu (N:Int) es (k:Int)=(((grE (N:Int) es).u k:Int),((grE (N:Int) es).v k:Int),(grE (N:Int) es).c k)∧JP (N:Int) es (tab x es.length) (k:Int)=CE (Cv es) x k∧(grE (N:Int) es).u k<N∧(grE (N:Int) es).v k<N ∧ -1000≤(grE (N:Int) es).c k∧(grE (N:Int) es).c k≤1000∧0≤CE (Cv es) x k∧CE (Cv es) x k≤4503599627370496:=by
 obtain ⟨hl,hr,hin⟩:=BN hw;obtain ⟨e,he,hE,q1,q2,q3,q4,q5,q6⟩:=Mc hr hk;obtain ⟨e',xx,he',hx,hro,r1,r2,r3⟩:=Md hw hk;obtain rfl:e'=e:=Option.some.inj (he'.symm.trans he);obtain ⟨hxk,rfl⟩:=Nc hx;have hce:Cv es (k / 2)=e'.cap:=by unfold Cv; rw [Bn he]
 have hge:(grE (N:Int) es).f (k / 2)=e'.f.toNat∧(grE (N:Int) es).t (k / 2)=e'.t.toNat∧(grE (N:Int) es).co (k / 2)=e'.cost:=by
  refine ⟨?_,?_,?_⟩ <;> (show _=_; unfold grE; dsimp only; rw [Bn he])
 rw [hE,hro];unfold Gr.u Gr.v Gr.c CE Jf;rw [hge.1,hge.2.1,hge.2.2,hce];unfold Fe at q1 q2 q3 q4 q5 q6 ⊢
 by_cases hp:k % 2=1
 ·have hp2:¬ k % 2=0:=by omega
  simp only [if_pos hp] at q1 q2 q3 q4 q5 q6 ⊢;simp only [if_neg hp2];exact ⟨by rw [Int.toNat_of_nonneg q1,Int.toNat_of_nonneg q3],trivial,by omega,by omega,q5,q6,r1,by omega⟩
 ·have hp2:k % 2=0:=by omega
  simp only [if_neg hp] at q1 q2 q3 q4 q5 q6 ⊢;simp only [if_pos hp2];exact ⟨by rw [Int.toNat_of_nonneg q1,Int.toNat_of_nonneg q3],trivial,by omega,by omega,q5,q6,by omega,by omega⟩

section
variable {w:World} {bs:Nat} {N:Nat} {ae:Option Addr} {ce bf bp bo:Nat} {k:Int} {es:List Ed} {x p:Nat→Int}

set_option maxRecDepth 20000 in
set_option maxHeartbeats 4000000 in
theorem Z0 (hs:w.heap[bs]? = some (Bl 170 (SC N ae es.length ce bf bp bo k))) (Re:Rd w ae 4 Br es) (hen:es≠[]→(adr ae).block≠bp) (hf:w.heap[bf]? = some (Bl 2 (B9 x es.length))) (hp:w.heap[bp]? = some (Bl 2 (B9 p N))) (n1:bs≠bp) (n2:bf≠bp)
  (hw:BF (N:Int) es (tab x es.length)=true) {p0:Nat→Int} (hF:Fine (grE (N:Int) es) (Cv es) x p0) :
  Ret Tryz.prog 199 #[ptr bs] w fun v w'=>v = .tuple #[]∧Ctx w [bp] w' [(bp,Bl 2 (B9 (EL (JI (grE (N:Int) es) (Cv es) x (2*es.length)) N fun _=>0) N))]:=by
 obtain ⟨w0,rfl⟩:∃ w0,w0=w:=⟨_,rfl⟩;have H:=Ctx.start1 hp;have n1':bs∉[bp]:=by rw [List.mem_singleton]; exact n1
 have n2':bf∉[bp]:=by rw [List.mem_singleton]; exact n2
 obtain ⟨hwl,hr,-⟩:=BN hw;obtain ⟨hN1,hN40,hn200,-⟩:=Cb hr;have hI:I64 (N:Int):=by unfold I64; omega
 obtain ⟨g,hg⟩:∃ g,g=grE (N:Int) es:=⟨_,rfl⟩;obtain ⟨cap,hcap⟩:∃ cap,cap=Cv es:=⟨_,rfl⟩
 have hat:∀ {a:Nat},a<2*es.length→Fu (N:Int) es (a:Int)=((g.u a:Int),(g.v a:Int),g.c a)∧JP (N:Int) es (tab x es.length) (a:Int)=CE cap x a∧g.u a<N∧g.v a<N ∧ -1000≤g.c a∧g.c a≤1000∧0≤CE cap x a∧CE cap x a≤4503599627370496:=fun ha=>by
  rw [hg,hcap]; exact Nk hw ha
 rw [← hg,← hcap] at hF ⊢;obtain ⟨A,hA⟩:∃ A,A=JI g cap x (2*es.length):=⟨_,rfl⟩;have hgE:g.E=es.length:=by rw [hg]; rfl
 have hAm:∀ b∈A,b.1<N∧b.2.1<N ∧ -1000≤b.2.2:=fun b hb=>by
  rw [hA] at hb;obtain ⟨a,ha,rfl⟩:=List.mem_map.1 hb;obtain ⟨-,-,h1,h2,h3,-⟩:=hat (List.mem_range.1 (List.mem_filter.1 ha).1);exact ⟨h1,h2,h3⟩
 have hfea:Fea A p0:=by rw [hA,← hgE]; exact QT hF
 have hfe2:=SR hfea fun a ha=>⟨(hAm a ha).1,(hAm a ha).2.1⟩;have hfb:=Ua (A:=A) (m:=1000) (by omega) (fun a ha=>(hAm a ha).2.2) N
 have hbnd:∀ r k v,-40000≤(JI g cap x k).foldl HM (EL A r fun _=>0) v∨2*es.length<k:=fun r k v=>by
  rcases Nat.lt_or_ge (2*es.length) k with h | h
  ·exact .inr h
  ·refine .inl ?_;have h1:=PB (A:=JI g cap x k) (p:=EL A r fun _=>0) (f:=DD A N) (fun a ha=>hfe2 a (by rw [hA]; exact Xx h a ha)) (fun v=>J6 hfe2 (fun v=>by have:=K8 A v (Nat.zero_le N); exact this) r v) v;have h2:=hfb v;have h3:(N:Int)*1000≤40000:=by omega
   omega
 have hbnd2:∀ r k v,(JI g cap x k).foldl HM (EL A r fun _=>0) v≤0:=fun r k v=>by
  refine Int.le_trans (KA _ _ v) ?_
  induction r with
  | zero=>exact Int.le_refl _
  | succ r ih=>exact Int.le_trans (KA _ _ v) ih
 rw [← hA];refine A2 (fn:=Tryz.f199) Tryz.func199 U [.pointer (some ⟨bs,0,none⟩)] U (by kernel_rfl) ?_;refine Ag (Ba U U (AZ U U (Ah U E8 U (AY U BC U ((by rw [Au hs]; rfl)) ?_))));refine Lg U AU FJ U (by simp [B4]) U H at0 (by simp) ?_;rintro w H;refine Ab (Aa ?_)
 have hz:over (B9 p N) 0 (List.replicate N [Value.int .i64 0]).flatten=B9 (EL A 0 fun _=>0) N:=by
  rw [_root_.Go.GV.over_all (by simp)];show _=(List.range N).map fun _=>Value.int .i64 0;rw [← Ec];simp
 rw [hz] at H;refine Ag (Ba U U (AZ U U (Ah U Gh U (Ah U Dj U (AY U BG U ((by rw [Au (H.ext.to hs n1')]; rfl)) ?_)))));refine Ae U U (Ab (Aa (Av (Bd 151115727451828646772860 (α:=Nat) (fun r=>[(16,.int .i64 (r:Int))]) (fun r w'=>r≤N∧Ctx w0 [bp] w' [(bp,Bl 2 (B9 (EL A r fun _=>0) N))]) (fun r=>N - r) 0 U ?_ ?_ ?_))))
 ·exact ⟨rfl,trivial⟩
 ·exact ⟨Nat.zero_le _,H⟩
 ·rintro r j w ⟨hr2,H⟩;refine Ag (AO U U U (Ab (Aa (Aq (Ay _ U ?_ ?_)))))
  ·intro h1;replace h1:=AG h1;refine Ax (Aa (Aq (Av (Ag (Ba U U (AZ U U (Ah U E7 U (AY U BC U ((by rw [Au (H.ext.to hs n1')]; rfl)) ?_))))))));refine AV U AU U (Cn U U U (by omega) (by omega) ?_);refine Ae U U (Ab (Aa (Av (Bd 75557863725914306642044 (α:=Nat) (fun a=>[(24,.int .i64 (a:Int))]) (fun a w'=>a≤2*es.length∧Ctx w0 [bp] w' [(bp,Bl 2 (B9 ((JI g cap x a).foldl HM (EL A r fun _=>0)) N))]) (fun a=>2*es.length - a) 0 U ?_ ?_ ?_))))
   ·exact ⟨rfl,trivial⟩
   ·exact ⟨Nat.zero_le _,H⟩
   ·rintro a j2 w ⟨ha2,H⟩;refine Ag (AO U U U (Ab (Aa (Aq (Ay _ U ?_ ?_)))))
    ·intro h2;replace h2:=AG h2;have ha:a<2*es.length:=by omega
     obtain ⟨hE,hR,q1,q2,q3,q4,q5,q6⟩:=hat ha;obtain ⟨un,hun⟩:∃ un,un=g.u a:=⟨_,rfl⟩;obtain ⟨vn,hvn⟩:∃ vn,vn=g.v a:=⟨_,rfl⟩;obtain ⟨co,hco⟩:∃ co,co=g.c a:=⟨_,rfl⟩;obtain ⟨q,hq⟩:∃ q,q=(JI g cap x a).foldl HM (EL A r fun _=>0):=⟨_,rfl⟩;have hb1:∀ v,-40000≤q v∧q v≤0:=fun v=>by rw [hq]; exact ⟨(hbnd r a v).resolve_right (by omega),hbnd2 r a v⟩
     have hsucc:(JI g cap x (a+1)).foldl HM (EL A r fun _=>0)=if 0<CE cap x a then HM q (un,vn,co) else q:=by
      rw [Vh,List.foldl_append,← hq]
      split
      ·rw [hun,hvn,hco]; rfl
      ·rfl
     rw [← hq] at H;rw [← hun,← hvn,← hco] at hE;have hE1:(Fu (N:Int) es (a:Int)).1=un:=by rw [hE]
     have hE2:(Fu (N:Int) es (a:Int)).2.1=vn:=by rw [hE]
     have hE3:(Fu (N:Int) es (a:Int)).2.2=co:=by rw [hE]
     rw [← hun] at q1;rw [← hvn] at q2;rw [← hco] at q3 q4;have b1:=hb1 un;have b2:=hb1 vn;have hgu:(tab q N)[un]? = some (q un):=BZ q1;have hgv:(tab q N)[vn]? = some (q vn):=BZ q2;have hne:(es≠[]→(adr ae).block∉[bp]):=fun h=>by rw [List.mem_singleton]; exact hen h
     have hes:es≠[]:=fun h=>by rw [h] at ha; simp at ha
     refine Ax (Aa (Aq (Av (Ag (Ae U U (Ad U U (Ab (Aa (Ag (Ba U U (AZ U U ?_)))))))))));refine Ah U Gh U (Cd _ U C1 Cs U U ((HV (H.ext.to hs n1'))) ?_);refine Ae U U (Al U SH (PG (N:Int) ae es.length ce es _ (Re.ext H.ext (hne hes)) U (by omega) hI (a:Int)) U ?_);rintro v w ⟨rfl,hx33⟩;replace H:=H.call hx33;rw [hE1,hE2,hE3];refine BK U U (A6 U U U (A6 U U U (A6 U U U (Ad U U (Ad U U (Ad U U (Ab (Aa (Ag (Ba U U ?_))))))))));refine AZ U U (Ah U E8 U (AY U BC U ((by rw [Au (H.ext.to hs n1')]; rfl)) ?_));refine Ae U U (Bi U AU Bz U U (by omega) (by omega) ?_);refine AY U Bx U (((Cu (H.get at0)).fld hgu U (j:=0) U)) ?_;refine Ae U U (Ao U U U (by omega) (by omega) ?_);refine Ad U U (Ab (Aa (E2 19 B0 (by kernel_rfl) U U ?_)));refine AN U U (Cl U U (Bm U U (A7 U E8 U (Ch U BC U (by rintro _ rfl; exact ((by rw [Au (H.drew.ext.to hs n1')]; rfl))) ?_))))
     refine AN U U (AR U AU Bz U U (by omega) (by omega) ?_);refine Ch U Bx U (by rintro _ rfl; exact (((Cu (H.drew.get at0)).fld hgv rfl (j:=0) rfl))) ?_;refine Lx U U U (DB U U (Dz 55 U ?_ ?_))
     ·intro h3;replace h3:=AG h3;refine Cl U U (Bm U U (A7 U Gh U (IB _ U C1 Cs U U (by rintro _ rfl; exact ((HV (H.drew.ext.to hs n1')))) ?_)));refine Cl U U (Bm U U (A7 U E7 U (Ch U BC U (by rintro _ rfl; exact ((by rw [Au (H.drew.ext.to hs n1')]; rfl))) ?_)));refine AN U U (Ca ?_);replace H:=H.drew;refine Al U SF (PH (N:Int) ae (some ⟨bf,0,none⟩) es.length ce es.length es.length es (tab x es.length) _ (Re.ext H.ext (hne hes)) U (by omega) hI (Cu (H.ext.to hf n2')) (CV _ _) (by omega) (a:Int)) U ?_;rintro v w ⟨rfl,hx65⟩;replace H:=H.call hx65;rw [hR];refine Ct U U U (An U U (.bool _) U (Ab (Aa (Ay _ U ?_ ?_))))
      ·intro h4;replace h4:=AG h4;refine Aw (Ba U U (AZ U U (Ah U E8 U (AY U BC U ((by rw [Au (H.ext.to hs n1')]; rfl)) ?_))));refine Ae U U (Ae U U (Bi U AU Bz U U (by omega) (by omega) ?_));refine Cc vn (fun z => .int .i64 (upd q vn (q un+co) z)) (.int _ _) U Bz U U U H at0 (by simp) q2 (by rw [D3,Int.add_comm]) (fun z _ hz=>by rw [Es hz]) ?_;rintro w H;refine Ab (A3 (Aa (Aw (Ao U U U (by omega) (by omega) ?_))));refine Ae U U (Ab (Aa ?_));refine ⟨a+1,rfl,⟨rfl,trivial⟩,⟨by omega,?_⟩,by omega⟩;rw [hsucc,if_pos h4];unfold HM;rw [if_pos (by dsimp only; omega)];exact H
      ·intro h4;replace h4:=AH h4;refine Ax (A3 (Aa (Aw (Ao U U U (by omega) (by omega) ?_))));refine Ae U U (Ab (Aa ?_));refine ⟨a+1,rfl,⟨rfl,trivial⟩,⟨by omega,?_⟩,by omega⟩;rw [hsucc,if_neg (by omega)];exact H
     ·intro h3;replace h3:=AH h3;refine A0 U (A0 U (A0 U (A0 U (A0 U (A0 U (A0 U (A0 U (A0 U (Ca ?_)))))))));replace H:=H.drew;refine Af U (Af U (A1 U U (.bool _) U (Ab (Aa (EQ U (Ax (A3 (Aa (Aw (Ao U U U (by omega) (by omega) ?_))))))))));refine Ae U U (Ab (Aa ?_));refine ⟨a+1,rfl,⟨rfl,trivial⟩,⟨by omega,?_⟩,by omega⟩;rw [hsucc]
      split
      ·unfold HM;rw [if_neg (by dsimp only; omega)];exact H
      ·exact H
    ·intro h2;replace h2:=AH h2;refine Bc (Aj (Aj (AD (A3 (Aa (Aw (Ao U U U (by omega) (by omega) ?_)))))));refine Ae U U (Ab (Aa ?_));obtain rfl:a=2*es.length:=by omega
     refine ⟨r+1,rfl,⟨rfl,trivial⟩,⟨by omega,?_⟩,by omega⟩;rw [← hA] at H;exact H
  ·intro h1;replace h1:=AH h1;refine Bc (Aj (Aj (AD (Db U U ?_))));obtain rfl:r=N:=by omega
   exact ⟨rfl,H⟩
end

end Go.Proofs.YtapphbmlkdhnmaaGreat

/- The solver: numbers that got too great are made anew: the walk. -/
namespace Go.Proofs.YtapphbmlkdhnmaaGreat
open Go.GV
attribute [local irreducible] AC W Wq Wt

theorem Xy {g:Gr} {cap x p q:Nat→Int} (h:Fine g cap x p) (hq:Fea (JI g cap x (2*g.E)) q):Fine g cap x q:=Xg h hq
theorem Nl {g:Gr} (hg:g.Ok) {cap x p q:Nat→Int} (h:Fine g cap x p) (hq:∀ v,v<g.N→q v=p v):Fine g cap x q :=
 ⟨h.in',fun a ha hr=>by
  have:=h.fit a ha hr;unfold Gr.len at this ⊢
  rw [hq _ (hg.u ha),hq _ (hg.v ha)]; exact this⟩

section
variable {w:World} {bs:Nat} {N:Nat} {ae:Option Addr} {ce bf bp bo:Nat} {k:Int} {es:List Ed} {x p:Nat→Int}

set_option maxRecDepth 20000 in
/-- Behind it numbers fit still, and are small. -/
theorem Vi (hs:w.heap[bs]? = some (Bl 170 (SC N ae es.length ce bf bp bo k))) (Re:Rd w ae 4 Br es) (hen:es≠[]→(adr ae).block≠bp) (hf:w.heap[bf]? = some (Bl 2 (B9 x es.length))) (hp:w.heap[bp]? = some (Bl 2 (B9 p N))) (n1:bs≠bp) (n2:bf≠bp)
  (hw:BF (N:Int) es (tab x es.length)=true) (hF:Fine (grE (N:Int) es) (Cv es) x p) :
  Ret Tryz.prog 172 #[ptr bs] w fun v w'=>v = .tuple #[]∧∃ p':Nat→Int,Fine (grE (N:Int) es) (Cv es) x p'∧(∀ v,v<N → -1073741824≤p' v∧p' v≤1073741824)∧Ctx w [bp] w' [(bp,Bl 2 (B9 p' N))]:=by
 obtain ⟨w0,rfl⟩:∃ w0,w0=w:=⟨_,rfl⟩;have H:=Ctx.start1 hp;have R:=Cu hp;obtain ⟨hwl,hr,-⟩:=BN hw;obtain ⟨hN1,hN40,hn200,-⟩:=Cb hr;refine A2 (fn:=Tryz.f172) Tryz.func172 U [.pointer (some ⟨bs,0,none⟩)] U (by kernel_rfl) ?_;refine Ag (Ba U U (AZ U U (Ah U E8 U (AY U BC U ((by rw [Au hs]; rfl)) ?_))));refine AV U AU U (Ae U U (Ab (Aa (Av (Bd 4193800 (α:=Nat) (fun i=>[(9,.int .i64 (i:Int))]) (fun i w'=>w0=w'∧i≤N∧∀ v,v<i → -1073741824≤p v∧p v≤1073741824) (fun i=>N - i) 0 U ?_ ?_ ?_)))))
 ·exact ⟨rfl,trivial⟩
 ·exact ⟨rfl,Nat.zero_le _,fun v h=>absurd h (Nat.not_lt_zero _)⟩
 ·rintro i j w ⟨rfl,hi,hb⟩;refine Ag (AO U U U (Ab (Aa (Aq (Ay _ U ?_ ?_)))))
  ·intro h1;replace h1:=AG h1;have hgp:(tab p N)[i]? = some (p i):=BZ (by omega);refine Ax (Aa (Aq (Av (Ag (Bi U AU Bz U U (by omega) (by omega) ?_)))));refine AY U Bx U ((R.fld hgp U (j:=0) U)) ?_;refine Ad U U (Ab (Aa (Ag (B5 (α:=Unit) 516096 (fun _=>[(18,.bool (decide (p i < -1073741824∨1073741824<p i)))]) (fun _ w'=>w'=w0) U ?_ ?_))))
   ·refine Ae U U (AO U U U (Ak U U (A4 15 U ?_ ?_)))
    ·intro h1;replace h1:=AG h1;refine Af U (Af U (An U U (.bool _) U (Ab ?_)));exact ⟨rfl,(),rfl,⟨congrArg Value.bool (by clear hgp; rw [Bool.eq_iff_iff]; simp_all; try omega),trivial⟩,rfl⟩
    ·intro h2;replace h2:=AH h2;refine Ae U U (Ct U U U (A1 U U (.bool _) U (Ab ?_)));exact ⟨rfl,(),rfl,⟨congrArg Value.bool (by clear hgp; rw [Bool.eq_iff_iff]; simp_all; try omega),trivial⟩,rfl⟩
   rintro - j18 w hw;subst hw;refine Ay _ U ?_ ?_
   ·intro h2;refine Ag (Ba U U (Al U Ac4 (Z0 hs Re hen hf hp n1 n2 hw hF) U ?_));rintro v w ⟨rfl,H⟩;refine Ab (Aa (A9 (AB (Am (Am (AB (Fg U U ?_)))))));obtain ⟨g,hg⟩:∃ g,g=grE (N:Int) es:=⟨_,rfl⟩;have hgE:g.E=es.length:=by rw [hg]; rfl
    rw [← hg] at H hF ⊢
    have hAm:∀ b∈JI g (Cv es) x (2*es.length),b.1<N∧b.2.1<N ∧ -1000≤b.2.2:=fun b hb=>by
     obtain ⟨a,ha,rfl⟩:=List.mem_map.1 hb;obtain ⟨-,-,h1,h2,h3,-⟩:=Nk hw (List.mem_range.1 (List.mem_filter.1 ha).1);rw [hg];exact ⟨h1,h2,h3⟩
    have hfea:Fea (JI g (Cv es) x (2*es.length)) p:=by rw [← hgE]; exact QT hF
    refine ⟨rfl,_,?_,fun v _=>?_,H⟩
    ·have h7:=UX hfea fun a ha=>⟨(hAm a ha).1,(hAm a ha).2.1⟩;rw [← hgE] at h7 ⊢;exact Xy hF h7
    ·have h7:=Xb hfea (fun a ha=>⟨(hAm a ha).1,(hAm a ha).2.1⟩) (m:=1000) (by omega) (fun a ha=>(hAm a ha).2.2) N v;omega
   ·intro h2;have h2:=of_decide_eq_false h2;refine Ax (A3 (Aa (Aw (Ao U U U (by omega) (by omega) ?_))));refine Ae U U (Ab (Aa ?_));refine ⟨i+1,rfl,⟨rfl,trivial⟩,⟨rfl,by omega,fun v hv=>?_⟩,by omega⟩
    by_cases e:v=i
    ·subst e; omega
    ·exact hb v (by omega)
  ·intro h1;replace h1:=AH h1;refine Bc (Aj (Aj (AD (Db U U ?_))));obtain rfl:i=N:=by omega
   exact ⟨rfl,p,hF,hb,H⟩
end

end Go.Proofs.YtapphbmlkdhnmaaGreat

/- The solver: back along a way: the walks. -/
namespace Go.Proofs.YtapphbmlkdhnmaaGreat
open Go.GV
attribute [local irreducible] AC W Wq Wt

theorem Ra (s by':Value) (ob:Option Addr) (on oc:Nat) (bs:Nat) (v:Int) (w:World) (hs:s=ptr bs) (hb:by' = .slice ob on oc):Ret Tryz.prog 169 #[s,by',.int .i64 v] w fun r w'=>∃ b3 b4 b5,r = .func (.func 196) #[] #[ptr b4,ptr b5,ptr b3]∧w'.heap[b3]? = some (Bl 168 [ptr bs])∧w'.heap[b4]? = some (Bl 203 [.slice ob on oc])∧w'.heap[b5]? = some (Bl 3 [.int .i64 v])∧w.heap.size≤b3∧w.heap.size≤b4∧w.heap.size≤b5∧b5≠b3∧b5≠b4∧Ext [] w w':=by
 subst hs hb;obtain ⟨w0,rfl⟩:∃ w0,w0=w:=⟨_,rfl⟩;have H:=Ctx.start w0 [];refine A2 (fn:=Tryz.f169) Tryz.func169 U [.pointer (some ⟨bs,0,none⟩),.slice ob on oc,.int .i64 v] U (by kernel_rfl) ?_;refine Ag (Bt U _ (.pointer _) U U H ?_);rintro b3 w - H;refine Bt U _ (.slice _ _ _) U U H ?_;rintro b4 w - H;refine Bt U _ (.int _ _) U U H ?_;rintro b5 w - H;refine Cj U .nilFunc U ?_;refine Ab (Aa (Ag (C9 U [.pointer _,.pointer _,.pointer _] U (Cj U (.func _ _ _) U ?_))));refine Ab (Aa (A9 (AF (v:=(.func _ _ _)) U U U ?_)));have h3:=H.own _ (List.mem_of_getElem? at2);have h4:=H.own _ (List.mem_of_getElem? at1);have h5:=H.own _ (List.mem_of_getElem? at0);exact ⟨_,_,_,rfl,H.get at2,H.get at1,H.get at0,h3.elim (fun h=>by cases h) id,h4.elim (fun h=>by cases h) id,h5.elim (fun h=>by cases h) id,H.ne at0 at2 (by decide),H.ne at0 at1 (by decide),H.ext⟩

def byO (by':Nat→Int) (v:Nat):Option Nat:=if by' v = -1 then none else some (by' v).toNat
def Xz (g:Gr) (a:Nat):List Value:=[.int .i64 (a:Int),.int .i64 (g.u a:Int)]
/-- What the rounds leave. -/
structure BackK (b3 b4 b5 bs ob:Nat) (N:Nat) (ae:Option Addr) (ce bf bp bo:Nat) (k:Int) (es:List Ed) (by':Nat→Int) (M:Mt) (w:World):Prop where
 h4:w.heap[b4]? = some (Bl 203 [.slice (some ⟨ob,0,none⟩) N N])
 h3:w.heap[b3]? = some (Bl 168 [ptr bs])
 hs:w.heap[bs]? = some (Bl 170 (SC N ae es.length ce bf bp bo k))
 ho:w.heap[ob]? = some (Bl 3 (B9 by' N))
 Re:Rd w ae 4 Br es
 nm:¬ M b5
theorem Rb {g:Gr} {cap x p:Nat→Int} {s:Lb} {by':Nat→Option Nat} (hB:Bys g cap x p s by'):∀ {k v:Nat},s.d v ≠ -1→s.h v=k→(DY by' g k v).length=k
 | 0,_,_,_=>rfl
 | k+1,v,hd,hk=>by
  obtain ⟨a,h1,h2,h3⟩:=hB.2 v hd (by omega);have hh:=h2.h;rw [h3,hk] at hh;rw [(G8 (g:=g) (k:=k) h1).1,List.length_cons,Rb hB h2.du (by omega)]

set_option maxRecDepth 20000 in
set_option maxHeartbeats 4000000 in
theorem Rc {b3 b4 b5 bs ob:Nat} {N:Nat} {ae:Option Addr} {ce bf bp bo:Nat} {kk:Int} {es:List Ed} {by':Nat→Int} {x p:Nat→Int} {s:Lb} (hw:BF (N:Int) es (tab x es.length)=true) (hB:Bys (grE (N:Int) es) (Cv es) x p s (byO by')) (hby:∀ v,by' v = -1∨∃ a:Nat,by' v=(a:Int)∧a<2*es.length) {k v:Nat} (hv:v<N) (hd:s.d v ≠ -1) (hk:s.h v=k) :
  TN Tryz.prog 196 #[ptr b4,ptr b5,ptr b3] [b5] (fun M w=>BackK b3 b4 b5 bs ob N ae ce bf bp bo kk es by' M w) ((DY (byO by') (grE (N:Int) es) k v).map (Xz (grE (N:Int) es))) (fun w=>w.heap[b5]? = some (Bl 3 [.int .i64 (v:Int)])):=by
 intro l w hS J E hJ0 hJs hEs hK hY;obtain ⟨M0,hJ0⟩:=hJ0;obtain ⟨w0,rfl⟩:∃ w0,w0=w:=⟨_,rfl⟩;have hr:=(BN hw).2.1;obtain ⟨hN1,hN40,hn200,-⟩:=Cb hr;have hI:I64 (N:Int):=by unfold I64; omega
 obtain ⟨g,hg⟩:∃ g,g=grE (N:Int) es:=⟨_,rfl⟩
 have hat:∀ {a:Nat},a<2*es.length→Fu (N:Int) es (a:Int)=((g.u a:Int),(g.v a:Int),g.c a)∧g.u a<N:=fun ha=>by
  rw [hg]; exact ⟨(Nk hw ha).1,(Nk hw ha).2.2.1⟩
 rw [← hg] at hB hY ⊢;have hlen:((DY (byO by') g k v).map (Xz g)).length=k:=by rw [List.length_map,Rb hB hd hk]
 refine A2 (fn:=Tryz.f196) Tryz.func196 U [.func (.yield l) #[] #[],.pointer (some ⟨b4,0,none⟩),.pointer (some ⟨b5,0,none⟩),.pointer (some ⟨b3,0,none⟩)] U (by kernel_rfl) ?_;refine Av (Bd 1073741792 (α:=Nat × Nat) (fun _=>[]) (fun t w'=>t.1≤k∧(∃ M,J t.1 M w')∧w'.heap[b5]? = some (Bl 3 [.int .i64 (t.2:Int)])∧t.2<N∧s.d t.2 ≠ -1∧s.h t.2=k - t.1∧(DY (byO by') g k v).drop t.1=DY (byO by') g (k - t.1) t.2) (fun t=>k - t.1) (0,v) U ?_ ?_ ?_)
 ·exact trivial
 ·exact ⟨Nat.zero_le _,⟨M0,hJ0⟩,hS,hv,hd,hk,rfl⟩
 ·rintro ⟨i,u⟩ j w ⟨hi,⟨M,hJ⟩,hb5,hun,hdu,hhu,hdrop⟩; dsimp only at hi hJ hb5 hun hdu hhu hdrop; dsimp only;have KK:=(hK _ _ _ hJ).2;obtain ⟨w1,rfl⟩:∃ w1,w1=w:=⟨_,rfl⟩;have H:=Ctx.start1 hb5;have hgb:(tab by' N)[u]? = some (by' u):=BZ hun;refine Aq (Ag (AY U FG U ((by rw [Au KK.h4]; rfl)) ?_));refine AA U BG U H at0 U (Bi U Eb EV U U (by omega) (by omega) ?_);refine AY U BG U (((Cu KK.ho).fld hgb U (j:=0) U)) ?_;refine CQ U U U (Ab (Aa (Ay _ U ?_ ?_)))
  ·intro h1;replace h1:=AG h1;have hne:byO by' u≠none:=by unfold byO; rw [if_neg (by omega)]; exact fun h=>by cases h
   have hh0:s.h u≠0:=fun h=>hne (hB.1 u (.inr h));obtain ⟨a,ha,hW,hva⟩:=hB.2 u hdu hh0
   have hba:by' u=(a:Int):=by
    unfold byO at ha;rw [if_neg (by omega)] at ha;have:=Option.some.inj ha;omega
   have ha2:a<2*es.length:=by
    rcases hby u with h | ⟨a',h,h7⟩
    ·omega
    ·omega
   obtain ⟨hE,hu2⟩:=hat ha2;rw [hba] at hgb;obtain ⟨u2,hu2e⟩:∃ u2,u2=g.u a:=⟨_,rfl⟩;obtain ⟨v2,hv2e⟩:∃ v2,v2=g.v a:=⟨_,rfl⟩;obtain ⟨c2,hc2e⟩:∃ c2,c2=g.c a:=⟨_,rfl⟩;rw [← hu2e,← hv2e,← hc2e] at hE;rw [← hu2e] at hu2;have hE1:(Fu (N:Int) es (a:Int)).1=u2:=by rw [hE]
   have hE2:(Fu (N:Int) es (a:Int)).2.1=v2:=by rw [hE]
   have hE3:(Fu (N:Int) es (a:Int)).2.2=c2:=by rw [hE]
   have hki:k - i=(k - (i+1))+1:=by omega
   have hps:=(G8 (g:=g) (k:=k - (i+1)) ha).1;rw [← hki,← hdrop,← hu2e] at hps
   have hgi:(DY (byO by') g k v)[i]? = some a:=by
    have:=congrArg (·[0]?) hps
    simpa using this
   have hdrop2:(DY (byO by') g k v).drop (i+1)=DY (byO by') g (k - (i+1)) u2:=by
    have:=congrArg List.tail hps
    simpa using this
   refine Ax (Aa (Av (Ag (AY U FG U ((by rw [Au KK.h4]; rfl)) ?_))));refine AA U BG U H at0 U (Bi U Eb EV U U (by omega) (by omega) ?_);refine AY U BG U (((Cu KK.ho).fld hgb U (j:=0) U)) ?_;refine Ad U U (Ab (Aa (Ag (AY U E3 U ((by rw [Au KK.h3]; rfl)) ?_))));refine AZ U U (Ah U Gh U (Cd _ U C1 Cs U U ((HV KK.hs)) ?_));refine Ae U U (Al U SH (PG (N:Int) ae es.length ce es _ KK.Re U (by omega) hI (a:Int)) U ?_);rintro r w ⟨rfl,hx21⟩;replace H:=H.call hx21;rw [hE1,hE2,hE3];refine BK U U (A6 U U U (A6 U U U (A6 U U U (BX (.int _ _) U EV U U U H at0 (by (simp; done)) ?_))));rintro w H;refine Ab (Aa ?_);have hJ1:=hJs _ _ _ _ hJ H.ext;have hY1:=hY i (Xz g a) M w (by rw [List.getElem?_map,hgi]; rfl) hJ1;have hb51:=H.get at0;have hnm:=KK.nm;have hwv:Xz g a=[.int .i64 (a:Int),.int .i64 (u2:Int)]:=by rw [hu2e]; rfl
   rw [hwv] at hY1;refine Ag (BP U (.func _ _ _) U ?_);refine Ae U U (AA U BG U H at0 U (Gg (vs:=[.int .i64 (a:Int),.int .i64 (u2:Int)]) U U hY1 U ?_));rintro u' w hu';obtain ⟨bb,rfl,hu1,hu0⟩:∃ bb,u' = .bool bb∧(bb=true→(∃ M,J (i+1) M w)∧w.heap[b5]? = some (Bl 3 [.int .i64 (u2:Int)]))∧(bb=false→E w):=hu'.elim (fun h=>⟨true,h.1,fun _=>let ⟨M',h1,h2⟩:=h.2; ⟨⟨M',h1⟩,h2.to hb51 hnm⟩,fun h=>by cases h⟩) (fun h=>⟨false,h.1,(fun h=>by cases h),fun _=>h.2⟩);refine Bv U U (Ab (Aa (Ay _ U ?_ ?_)))
   ·intro h2;replace h2:=Bo h2;refine A9 (AB (Am (AB (Fg U U ?_))));exact .inr (hu0 (by simpa using h2))
   ·intro h2;replace h2:=Bp h2;refine Ax (A3 (Aa ?_));obtain ⟨hJ2,hb52⟩:=hu1 (by simpa using h2);have hh:=hW.h;rw [hva,← hu2e] at hh;exact ⟨(i+1,u2),rfl,trivial,⟨by dsimp only; omega,hJ2,hb52,hu2,by dsimp only; rw [hu2e]; exact hW.du,by dsimp only; omega,hdrop2⟩,by dsimp only; omega⟩
  ·intro h1;replace h1:=AH h1
   have hh0:s.h u=0:=by
    rcases Nat.eq_zero_or_pos (s.h u) with h | h
    ·exact h
    ·obtain ⟨a,ha,-,-⟩:=hB.2 u hdu (by omega);exfalso;unfold byO at ha
     rcases hby u with h7 | ⟨a',h7,-⟩
     ·rw [if_pos h7] at ha; cases ha
     ·omega
   refine Bc (Aj (Aj (AD (Db U U ?_))));obtain rfl:i=k:=by omega
   exact .inl ⟨M,by rw [hlen]; exact hJ⟩

end Go.Proofs.YtapphbmlkdhnmaaGreat

/- Shortest ways: the walk of the whole. -/
namespace Go.Proofs.YtapphbmlkdhnmaaGreat
open Go.GV
attribute [local irreducible] AC W Wq Wt

/-- The blocks that Ways makes, by the operation that makes them. -/
def Hy:Nat→List Nat
 | 1=>[0] | 2=>[1,0] | 4=>[3] | 5=>[4,3] | 7=>[6] | 8=>[7,6] | 10=>[9] | 11=>[10,9]
 | 12=>[2,1,0,5,4,3,8,7,6,11,10,9] | 13=>[12,2,1,0,5,4,3,8,7,6,11,10,9] | 15=>[14,13,12,2,1,0,5,4,3,8,7,6,11,10,9] | _=>[]
def L9 (i:Nat):Nat:=if i=14 then 11 else 23+i
def Vj (b4 n:Nat) (i:Nat) (B:Nat→Nat):Value :=
 if i=1∨i=4∨i=7∨i=10 then .int .i64 (n:Int) else if i=2∨i=5∨i=8∨i=11 then .slice (some ⟨B i,0,none⟩) n n
 else if i=12 then .agg (FB (B 2) (B 5) (B 8) (B 11) n).toArray else if i=13∨i=14 then ptr (B i) else .pointer (some ⟨b4,0+0,none⟩)
def Ev (n:Nat) (i:Nat):Option ((Nat→Nat)→Obj) :=
 if i=2 then some fun _=>Bl 230 ((List.range n).map fun _ => .slice none 0 0) else if i=5 then some fun _=>Bl 2 (B9 (fun _=>0) n) else if i=8∨i=11 then some fun _=>Bl 3 (B9 (fun _=>0) n)
 else if i=13 then some fun B=>Bl 224 (FB (B 2) (B 5) (B 8) (B 11) n) else if i=14 then some fun _=>Bl 221 [.pointer none] else none
theorem Vk:∀ i j,i<15→j<15→L9 i=L9 j→i=j:=fun i j hi hj h=>by
 unfold L9 at h
 split at h <;> split at h <;> omega
theorem wStab (b4 n:Nat) (i k b:Nat) (B:Nat→Nat) (hi:i<15) (hki:k≠i) (hka:k∉Hy i):Vj b4 n i (IP B k b)=Vj b4 n i B∧∀ ob,Ev n i=some ob→ob (IP B k b)=ob B:=by
 have h0:IP B k b i=B i:=FY (Ne.symm hki)
 have h1:i=12∨i=13→IP B k b 2=B 2∧IP B k b 5=B 5∧IP B k b 8=B 8∧IP B k b 11=B 11:=fun h=>by
  have:k≠2∧k≠5∧k≠8∧k≠11:=by
   rcases h with rfl | rfl <;> (simp [Hy] at hka; omega)
  exact ⟨FY (Ne.symm this.1),FY (Ne.symm this.2.1),FY (Ne.symm this.2.2.1),FY (Ne.symm this.2.2.2)⟩
 constructor
 ·unfold Vj
  by_cases e:i=12
  ·have:=h1 (.inl e);subst e;simp [this]
  ·rw [h0]; simp [e]
 ·intro ob hob;unfold Ev at hob
  by_cases e:i=13
  ·have:=h1 (.inr e);subst e;simp at hob;subst hob;simp [this]
  ·split at hob
   ·cases hob; rfl
   ·split at hob
    ·cases hob; rfl
    ·split at hob
     ·cases hob; rfl
     ·split at hob
      ·cases hob; rfl
      ·cases hob

theorem Kj {N:Int} {es:List Ed} (hr:Ci N es=true):(grE N es).Ok:=by
 have h:∀ i,i<es.length→(es.getD i e0).f.toNat<N.toNat∧(es.getD i e0).t.toNat<N.toNat:=fun i hi=>by
  obtain ⟨e,he⟩:=AE (l:=es) (i:=i) hi;have:=CY ((Cb hr).2.2.2.1 e (List.mem_of_getElem? he));rw [Bn he];omega
 exact ⟨fun i hi=>(h i hi).1,fun i hi=>(h i hi).2⟩
theorem Uk {cap x:Nat→Int} {k a:Nat} (h:a∈Eu cap x k):a<2*k:=List.mem_range.1 (List.mem_filter.1 h).1
def Nm (i:Nat) (v:Nat):Int:=if v<i then -1 else 0
theorem Ul (i:Nat):Nm (i+1) i = -1:=if_pos (by omega)
theorem Um {i q:Nat} (h:q≠i):Nm (i+1) q=Nm i q:=by unfold Nm; split <;> split <;> omega

theorem Z1 {P:Program} {e:Env} {w:World} {fn:Func} {R:Value→World→Prop} {t1 t2 t3:Tmp} {v1 v2 v3:Value} (hr:fn.results=#[.tmp t1,.tmp t2,.tmp t3]) (h1:e.g t1=v1) (h2:e.g t2=v2) (h3:e.g t3=v3) (h:Marks e.ds w (R (.tuple #[v1,v2,v3]))):Q4 P fn R .ret e w :=
 Marks.mono (fun w h tmps ht=>by
  have q1:=(ht t1).trans h1;have q2:=(ht t2).trans h2;have q3:=(ht t3).trans h3;rw [Array.getD_eq_getD_getElem?] at q1 q2 q3
  exact ⟨_,by simp [results,hr,q1,q2,q3],h⟩) h
theorem Ta {L L':List (Nat × Obj)} (h:(L++L').Pairwise (fun x y=>x.1≠y.1)) {x:Nat × Obj} (hx:x∈L):x.1∉L'.map (·.1):=fun hm=>by
 obtain ⟨y,hy,he⟩:=List.mem_map.1 hm;exact (List.pairwise_append.1 h).2.2 x hx y hy he.symm
theorem Rd.lt {α:Type} {w:World} {a:Option Addr} {s:Nat} {enc:α→List Value} {xs:List α} (R:Rd w a s enc xs) (h:xs≠[]) (hs:∀ x∈xs,∃ v,(enc x)[0]? = some v) (h0:0<s):(adr a).block<w.heap.size:=by
 obtain ⟨x,hx⟩:=AE (l:=xs) (i:=0) (List.length_pos_iff.2 h);obtain ⟨v,hv⟩:=hs x (List.mem_of_getElem? hx);exact World.block_lt_of_cell? w ⟨(adr a).block,(adr a).off+0*s+0,none⟩ (R.cell 0 x hx 0 v hv h0)
theorem Z3:(lb0 []).d=fun _ => -1:=by
 funext v
 show (if v∈([]:List Nat) then (0:Int) else -1) = -1;exact if_neg List.not_mem_nil
structure WSt where
 s:Lb
 a:Option Addr
 hn:Nat
 c:Nat
 full:List Value
 L:List Tg
 D:Int

set_option maxRecDepth 20000 in
set_option maxHeartbeats 8000000 in
theorem Z4 (N:Int) (a b p fr:Option Addr) (n c m d q r fc:Nat) (es:List Ed) (fl pot:List Int) (src:List Nat) (w:World) (R:Rd w a 4 Br es) (hn:es.length=n) (hN:I64 N) (Rf:Rd w b 1 I1 fl) (hm:fl.length=m) (hm2:m≤9223372036854775000) (Rp:Rd w p 1 I1 pot) (hq:pot.length=q) (hq2:q≤9223372036854775000) (Rs:Rd w fr 1 I1 (src.map fun v:Nat=>(v:Int)))
  (hfit:Hm N es fl pot=true) (hsrc:∀ v∈src,v<N.toNat) (hnd:src.Nodup) (hs0:0<src.length) :
  Ret Tryz.prog 167 #[CT N a n c,.slice b m d,.slice p q r,.slice fr src.length fc] w fun v w'=>∃ (od ob:Nat) (s:Lb) (by':Nat→Int),v = .tuple #[.slice (some ⟨od,0,none⟩) N.toNat N.toNat,.slice (some ⟨ob,0,none⟩) N.toNat N.toNat,.int .i64 0]∧Done (LH (grE N es) (Cv es) (flE fl) (EB pot)) src N.toNat 2199023256552 s∧Bys (grE N es) (Cv es) (flE fl) (EB pot) s (fun v=>if by' v = -1 then none else some (by' v).toNat)∧(∀ v,by' v = -1∨∃ a:Nat,by' v=(a:Int)∧a<2*es.length)∧Ctx w [] w' [(od,Bl 2 (B9 s.d N.toNat)),(ob,Bl 3 (B9 by' N.toNat))]:=by
 subst hn hm hq;obtain ⟨w0,rfl⟩:∃ w0,w0=w:=⟨_,rfl⟩;have H:=Ctx.start w0 [];refine G5 (fn:=Tryz.f167) Tryz.func167 U [CT N a es.length c,.slice b fl.length d,.slice p pot.length r,.slice fr src.length fc] U (by kernel_rfl) ?_;refine Ag (Bt U [.int .i64 N,.slice a es.length c] (.agg _) U U H ?_);rintro b4 w - H;refine A5 U U (A5 U U (Ad U U (Ab (Aa (Aq (Ag (Bh U C1 Cs U H at0 U (Ap U U (Ap U U (Al U Acw (Zu N a b p es.length c fl.length d pot.length r es fl pot _ (R.ext0 H.ext) U hN (Rf.ext0 H.ext) U hm2 (Rp.ext0 H.ext) U hq2) U ?_))))))))));rintro v w ⟨rfl,hx21⟩;replace H:=H.call hx21;refine Bv U U (Ab (Aa (Ay _ U ?_ ?_)))
 ·intro h1;replace h1:=Bo h1;rw [hfit] at h1;cases h1
 ·intro h1;replace h1:=Bp h1;have hw:BF N es fl=true:=by unfold Hm at hfit; rw [Bool.and_eq_true] at hfit; exact hfit.1
  obtain ⟨hN1,hN40,hn200,-⟩:=Cb (BN hw).2.1;obtain ⟨nn,rfl⟩:∃ nn:Nat,N=(nn:Int):=⟨N.toNat,by omega⟩;refine Ax (Aa (DC 137430566912 (α:=Nat × Nat × Nat × Nat × Nat × Nat) (fun z=>[(11,ptr z.1)]) (fun z w'=>Ctx w0 [] w' [(z.1,Bl 221 [ptr z.2.1]),(z.2.1,Bl 224 (FB z.2.2.1 z.2.2.2.1 z.2.2.2.2.1 z.2.2.2.2.2 nn)),(z.2.2.1,Bl 230 ((List.range nn).map fun _ => .slice none 0 0)),(z.2.2.2.1,Bl 2 (B9 (fun _=>0) nn)),(z.2.2.2.2.1,Bl 3 (B9 (fun _=>0) nn)),(z.2.2.2.2.2,Bl 3 (B9 (fun _=>0) nn)),(b4,Bl 28 [.int .i64 (nn:Int),.slice a es.length c])]) U ?_ ?_))
  ·skip
   have hb4:=H.get at0;refine Q9 (n:=15) (anc:=Hy) L9 (Vj b4 nn) (Ev nn) (show Tryz.prog.follows .mixedOrders=true by kernel_rfl) U (by kernel_rfl) ?_ Vk (wStab b4 nn) ?_ ?_
   ·intro k hk;have:k=0∨k=1∨k=2∨k=3∨k=4∨k=5∨k=6∨k=7∨k=8∨k=9∨k=10∨k=11∨k=12∨k=13∨k=14:=by omega
    simp [Hy];omega
   ·intro i o e' w' B hi ho hold hsl hx hbl
    have h4:e'.g 4=ptr b4:=(hold 4 fun j hj h=>by
     have h:(4:Nat)=L9 j:=h;unfold L9 at h
     split at h <;> omega).trans rfl
    have hc4:w'.heap[b4]? = some (Bl 28 [.int .i64 (nn:Int),.slice a es.length c]):=hx.to (by exact hb4) (by simp);have hcs:i=0∨i=1∨i=2∨i=3∨i=4∨i=5∨i=6∨i=7∨i=8∨i=9∨i=10∨i=11∨i=12∨i=13∨i=14:=by omega
    have hpure:∀ {v:Value},Ev nn i=none→Vj b4 nn i (IP B i 0)=v→AQ L9 (Vj b4 nn) (Ev nn) i e' w' B (put e' (some (L9 i)) v) w':=fun h1 h2=>⟨0,fun ob h=>(by rw [h1] at h; cases h),.refl _ _,by rw [h2]⟩
    rcases hcs with rfl | rfl | rfl | rfl | rfl | rfl | rfl | rfl | rfl | rfl | rfl | rfl | rfl | rfl | rfl
    ·cases Option.some.inj ho;exact Ah U (by kernel_rfl) h4 (Ab (hpure U U))
    ·cases Option.some.inj ho;exact AY U BG (hsl 0 (by simp [Hy])) (by rw [Au hc4]; rfl) (Ab (hpure U U))
    ·cases Option.some.inj ho;refine FC U Li Lj Abi Ad4 (hsl 1 (by simp [Hy])) (hsl 1 (by simp [Hy])) (by omega) (by omega) (by omega) (by omega) (Ctx.start w' []) fun b w2 hb H=>?_;have hbb:=H.get at0;rw [show ((nn:Int)).toNat=nn from rfl,Ec] at hbb;exact Ab ⟨b,fun ob h=>(by obtain rfl:=Option.some.inj h; exact ⟨by omega,hbb⟩),H.ext,rfl⟩
    ·cases Option.some.inj ho;exact Ah U (by kernel_rfl) h4 (Ab (hpure U U))
    ·cases Option.some.inj ho;exact AY U BG (hsl 3 (by simp [Hy])) (by rw [Au hc4]; rfl) (Ab (hpure U U))
    ·cases Option.some.inj ho;refine FC U AU Bz Kz FJ (hsl 4 (by simp [Hy])) (hsl 4 (by simp [Hy])) (by omega) (by omega) (by omega) (by omega) (Ctx.start w' []) fun b w2 hb H=>?_;have hbb:=H.get at0;rw [show ((nn:Int)).toNat=nn from rfl,Ec] at hbb;exact Ab ⟨b,fun ob h=>(by obtain rfl:=Option.some.inj h; exact ⟨by omega,hbb⟩),H.ext,rfl⟩
    ·cases Option.some.inj ho;exact Ah U (by kernel_rfl) h4 (Ab (hpure U U))
    ·cases Option.some.inj ho;exact AY U BG (hsl 6 (by simp [Hy])) (by rw [Au hc4]; rfl) (Ab (hpure U U))
    ·cases Option.some.inj ho;refine FC U Eb EV by_3 QP (hsl 7 (by simp [Hy])) (hsl 7 (by simp [Hy])) (by omega) (by omega) (by omega) (by omega) (Ctx.start w' []) fun b w2 hb H=>?_;have hbb:=H.get at0;rw [show ((nn:Int)).toNat=nn from rfl,Ec] at hbb;exact Ab ⟨b,fun ob h=>(by obtain rfl:=Option.some.inj h; exact ⟨by omega,hbb⟩),H.ext,rfl⟩
    ·cases Option.some.inj ho;exact Ah U (by kernel_rfl) h4 (Ab (hpure U U))
    ·cases Option.some.inj ho;exact AY U BG (hsl 9 (by simp [Hy])) (by rw [Au hc4]; rfl) (Ab (hpure U U))
    ·cases Option.some.inj ho;refine FC U Eb EV by_3 QP (hsl 10 (by simp [Hy])) (hsl 10 (by simp [Hy])) (by omega) (by omega) (by omega) (by omega) (Ctx.start w' []) fun b w2 hb H=>?_;have hbb:=H.get at0;rw [show ((nn:Int)).toNat=nn from rfl,Ec] at hbb;exact Ab ⟨b,fun ob h=>(by obtain rfl:=Option.some.inj h; exact ⟨by omega,hbb⟩),H.ext,rfl⟩
    ·cases Option.some.inj ho;refine Cp (FB (B 2) (B 5) (B 8) (B 11) nn) U Ado Ad3 ?_ (Ab (hpure U U));show Instr.fill _ _ [(0,e'.g 25),(1,e'.g 28),(2,e'.g 31),(3,e'.g 34)]=_;rw [show e'.g 25 = .slice (some ⟨B 2,0,none⟩) nn nn from hsl 2 (by simp [Hy]),show e'.g 28 = .slice (some ⟨B 5,0,none⟩) nn nn from hsl 5 (by simp [Hy]),show e'.g 31 = .slice (some ⟨B 8,0,none⟩) nn nn from hsl 8 (by simp [Hy]),show e'.g 34 = .slice (some ⟨B 11,0,none⟩) nn nn from hsl 11 (by simp [Hy])];rfl
    ·cases Option.some.inj ho;refine Bt U (FB (B 2) (B 5) (B 8) (B 11) nn) (.agg _) (hsl 12 (by simp [Hy])) U (Ctx.start w' []) fun b w2 hb H=>?_;exact Ab ⟨b,fun ob h=>(by obtain rfl:=Option.some.inj h; exact ⟨by omega,H.get at0⟩),H.ext,rfl⟩
    ·cases Option.some.inj ho;refine Bs U Ad2 (Ctx.start w' []) fun b w2 hb H=>?_;exact Ab ⟨b,fun ob h=>(by obtain rfl:=Option.some.inj h; exact ⟨by omega,H.get at0⟩),H.ext,rfl⟩
   ·intro o e' w' B ho A;have hl4:=B2 hb4;have hs0:=H.size;have h9:w.drew.heap.size=w.heap.size:=rfl;have n14_13:B 14≠B 13:=A.ne 14 13 (by omega) (by omega) (by omega) trivial trivial (by simp [Ev]) (by simp [Ev]);have n14_2:B 14≠B 2:=A.ne 14 2 (by omega) (by omega) (by omega) trivial trivial (by simp [Ev]) (by simp [Ev]);have n14_5:B 14≠B 5:=A.ne 14 5 (by omega) (by omega) (by omega) trivial trivial (by simp [Ev]) (by simp [Ev]);have n14_8:B 14≠B 8:=A.ne 14 8 (by omega) (by omega) (by omega) trivial trivial (by simp [Ev]) (by simp [Ev]);have n14_11:B 14≠B 11:=A.ne 14 11 (by omega) (by omega) (by omega) trivial trivial (by simp [Ev]) (by simp [Ev]);have n13_2:B 13≠B 2:=A.ne 13 2 (by omega) (by omega) (by omega) trivial trivial (by simp [Ev]) (by simp [Ev]);have n13_5:B 13≠B 5:=A.ne 13 5 (by omega) (by omega) (by omega) trivial trivial (by simp [Ev]) (by simp [Ev])
    have n13_8:B 13≠B 8:=A.ne 13 8 (by omega) (by omega) (by omega) trivial trivial (by simp [Ev]) (by simp [Ev]);have n13_11:B 13≠B 11:=A.ne 13 11 (by omega) (by omega) (by omega) trivial trivial (by simp [Ev]) (by simp [Ev]);have n2_5:B 2≠B 5:=A.ne 2 5 (by omega) (by omega) (by omega) trivial trivial (by simp [Ev]) (by simp [Ev]);have n2_8:B 2≠B 8:=A.ne 2 8 (by omega) (by omega) (by omega) trivial trivial (by simp [Ev]) (by simp [Ev]);have n2_11:B 2≠B 11:=A.ne 2 11 (by omega) (by omega) (by omega) trivial trivial (by simp [Ev]) (by simp [Ev]);have n5_8:B 5≠B 8:=A.ne 5 8 (by omega) (by omega) (by omega) trivial trivial (by simp [Ev]) (by simp [Ev]);have n5_11:B 5≠B 11:=A.ne 5 11 (by omega) (by omega) (by omega) trivial trivial (by simp [Ev]) (by simp [Ev]);have n8_11:B 8≠B 11:=A.ne 8 11 (by omega) (by omega) (by omega) trivial trivial (by simp [Ev]) (by simp [Ev])
    have k14:=A.blk 14 _ (by omega) trivial (show Ev nn 14=some _ from rfl);have m14:B 14≠b4:=by have:=k14.2; have h9:w.drew.heap.size=w.heap.size:=rfl; omega
    have k13:=A.blk 13 _ (by omega) trivial (show Ev nn 13=some _ from rfl);have m13:B 13≠b4:=by have:=k13.2; have h9:w.drew.heap.size=w.heap.size:=rfl; omega
    have k2:=A.blk 2 _ (by omega) trivial (show Ev nn 2=some _ from rfl);have m2:B 2≠b4:=by have:=k2.2; have h9:w.drew.heap.size=w.heap.size:=rfl; omega
    have k5:=A.blk 5 _ (by omega) trivial (show Ev nn 5=some _ from rfl);have m5:B 5≠b4:=by have:=k5.2; have h9:w.drew.heap.size=w.heap.size:=rfl; omega
    have k8:=A.blk 8 _ (by omega) trivial (show Ev nn 8=some _ from rfl);have m8:B 8≠b4:=by have:=k8.2; have h9:w.drew.heap.size=w.heap.size:=rfl; omega
    have k11:=A.blk 11 _ (by omega) trivial (show Ev nn 11=some _ from rfl);have m11:B 11≠b4:=by have:=k11.2; have h9:w.drew.heap.size=w.heap.size:=rfl; omega
    have Hc:Ctx w0 [] w' [(B 14,Bl 221 [.pointer none]),(B 13,Bl 224 (FB (B 2) (B 5) (B 8) (B 11) nn)),(B 2,Bl 230 ((List.range nn).map fun _ => .slice none 0 0)),(B 5,Bl 2 (B9 (fun _=>0) nn)),(B 8,Bl 3 (B9 (fun _=>0) nn)),(B 11,Bl 3 (B9 (fun _=>0) nn)),(b4,Bl 28 [.int .i64 (nn:Int),.slice a es.length c])]:=by
     refine ⟨(H.ext.trans (Ext.drew [] _)).trans A.ext,fun x hx=>?_,?_,fun x hx => .inr ?_⟩
     ·simp only [List.mem_cons,List.not_mem_nil,or_false] at hx
      rcases hx with rfl | rfl | rfl | rfl | rfl | rfl | rfl
      ·exact k14.1
      ·exact k13.1
      ·exact k2.1
      ·exact k5.1
      ·exact k8.1
      ·exact k11.1
      ·exact A.ext.to hb4 (by simp)
     ·simp only [List.pairwise_cons,List.mem_cons,List.not_mem_nil,or_false,forall_eq_or_imp,forall_eq,List.Pairwise.nil,false_imp_iff,implies_true,and_true];exact ⟨⟨n14_13,n14_2,n14_5,n14_8,n14_11,m14⟩,⟨n13_2,n13_5,n13_8,n13_11,m13⟩,⟨n2_5,n2_8,n2_11,m2⟩,⟨n5_8,n5_11,m5⟩,⟨n8_11,m8⟩,m11⟩
     ·simp only [List.mem_cons,List.not_mem_nil,or_false] at hx;have hb40:=(H.own _ (List.mem_cons_self ..)).elim (fun h=>by cases h) id
      rcases hx with rfl | rfl | rfl | rfl | rfl | rfl | rfl
      ·have:=k14.2; dsimp only; omega
      ·have:=k13.2; dsimp only; omega
      ·have:=k2.2; dsimp only; omega
      ·have:=k5.2; dsimp only; omega
      ·have:=k8.2; dsimp only; omega
      ·have:=k11.2; dsimp only; omega
      ·exact hb40
    cases Option.some.inj ho;exact BX (ptr (B 13)) U Adu (A.slot 14 (by omega) trivial) (A.slot 13 (by omega) trivial) U Hc at0 (by decide) fun w2 H2=>Ab ⟨(B 14,B 13,B 2,B 5,B 8,B 11),A.ds,⟨A.slot 14 (by omega) trivial,trivial⟩,H2⟩
  ·rintro ⟨b11,b36,oo,od,oh,ob⟩ j w H; dsimp only at H; dsimp only;refine Aq (Ag (Ah U Dj U (AA U BG U H at6 U (Ae U U (Ab (Aa (Av (Bd 36028247263154176 (α:=Nat) (fun i=>[(39,.int .i64 (i:Int))]) (fun i w'=>i≤nn∧Ctx w0 [] w' [(b11,Bl 221 [ptr b36]),(b36,Bl 224 (FB oo od oh ob nn)),(oo,Bl 230 ((List.range nn).map fun _ => .slice none 0 0)),(od,Bl 2 (B9 (Nm i) nn)),(oh,Bl 3 (B9 (fun _=>0) nn)),(ob,Bl 3 (B9 (Nm i) nn)),(b4,Bl 28 [.int .i64 (nn:Int),.slice a es.length c])]) (fun i=>nn - i) 0 U ?_ ?_ ?_))))))))
   ·exact ⟨rfl,trivial⟩
   ·exact ⟨Nat.zero_le _,H⟩
   ·rintro i j2 w ⟨hi,H⟩;refine Ag (AO U U U (Ab (Aa (Aq (Ay _ U ?_ ?_)))))
    ·intro h2;replace h2:=AG h2;refine Ax (Aa (Aq (Av (Ag (Ae U U (Ad U U (Ab (Aa (EG [([0,1,2,3,4,5,6,7,8,9,10],11),([12],13)] (fun z=>z.heap[b11]? = some (Bl 221 [ptr b36])∧z.heap[b36]? = some (Bl 224 (FB oo od oh ob nn))) [13] B0 (by kernel_rfl) (⟨H.drew.get at0,H.drew.get at1⟩) ?_)))))))));refine AL U U ?_;refine BM U Hu U (fun _ hx=>(by rw [Au hx.1]; rfl)) ?_;refine B6 U U (AJ U Eh U (BM U BC U (fun _ hx=>(by rw [Au hx.2]; rfl)) ?_));refine AP U U (BM U Hu U (fun _ hx=>(by rw [Au hx.1]; rfl)) ?_);refine B6 U U (AJ U IW U (BM U FG U (fun _ hx=>(by rw [Au hx.2]; rfl)) ?_));refine AP U U (AK U AU Bz U U (by omega) (by omega) ?_);refine Bu ?_;replace H:=H.drew;refine Cc i (fun q => .int .i64 (Nm (i+1) q)) (.int _ _) U Bz U U U H at3 (by simp) (by omega) (by rw [Ul]) (fun q _ hq=>by rw [Um hq]) ?_;rintro w H;refine Ab (BH (⟨H.get at0,H.get at1⟩) (AL U U ?_))
     refine AK U Eb EV U U (by omega) (by omega) ?_;refine Bu (Cc i (fun q => .int .i64 (Nm (i+1) q)) (.int _ _) U EV U U U H at5 (by simp) (by omega) (by rw [Ul]) (fun q _ hq=>by rw [Um hq]) ?_);rintro w H;refine Ab (Cg U (BS (A3 (Aa (Aw (Ao U U U (by omega) (by omega) ?_))))));refine Ae U U (Ab (Aa ?_));exact ⟨i+1,rfl,⟨rfl,trivial⟩,⟨by omega,H⟩,by omega⟩
    ·intro h2;replace h2:=AH h2;obtain rfl:nn=i:=by omega
     have htab:B9 (Nm nn) nn=B9 (fun _ => -1) nn:=List.map_congr_left fun v hv=>by
      show Value.int _ (Nm nn v)=Value.int _ (-1);unfold Nm; rw [if_pos (List.mem_range.1 hv)]
     rw [htab] at H;have hr:=(BN hw).2.1;have hp:EO (nn:Int) pot=true:=by unfold Hm at hfit; rw [Bool.and_eq_true,Bool.and_eq_true] at hfit; exact hfit.2.1
     obtain ⟨g,hg⟩:∃ g,g=grE (nn:Int) es:=⟨_,rfl⟩;obtain ⟨pf,hpf⟩:∃ pf,pf=EB pot:=⟨_,rfl⟩;obtain ⟨l,hl⟩:∃ l,l=Eu (Cv es) (flE fl) es.length:=⟨_,rfl⟩;have hgo:g.Ok:=by rw [hg]; exact Kj hr
     have hlen400:l.length≤400:=by
      rw [hl]; unfold Eu;have:=List.length_filter_le (fun a=>decide (0<CE (Cv es) (flE fl) a)) (List.range (2*es.length));rw [List.length_range] at this;omega
     refine Bc (Aj (Aj (AD (Aa (Aq (Ag (Bh U C1 Cs U H at6 U (Ap U U (Ap U U ?_)))))))));have hb7:=H;refine Al U WA (Ui (nn:Int) a b p es.length c fl.length d pot.length r _) U ?_;rintro v w ⟨x1,x2,x3,rfl,hb1,hb2,hb3,hs1,hs2,hs3,hx58⟩;replace H:=H.call hx58;refine Ab (Aa (Av ?_));obtain ⟨ws,rfl⟩:∃ z,z=w:=⟨_,rfl⟩;have hk1:=B2 hb1;have hk2:=B2 hb2;have hk3:=B2 hb3;have hs07:=H.size;have hoo:=H.get at2;have HL:=(H.perm (List.perm_middle (l₁:=[_,_]) (l₂:=[_,_,_,_]))).tail;have hoolt:=B2 hoo;have hoo7:=B2 (hb7.get at2);have hooge:w0.heap.size≤oo:=(H.own (oo,_) (List.mem_of_getElem? (i:=2) rfl)).elim (fun h=>by cases h) id;obtain ⟨OL,hOL⟩:∃ OL:List (Nat × Obj),OL=[(b11,Bl 221 [ptr b36]),(b36,Bl 224 (FB oo od oh ob nn)),(od,Bl 2 (B9 (fun _ => -1) nn)),(oh,Bl 3 (B9 (fun _=>0) nn)),(ob,Bl 3 (B9 (fun _ => -1) nn)),(b4,Bl 28 [.int .i64 (nn:Int),.slice a es.length c])]:=⟨_,rfl⟩
     have HL':Ctx w0 [] ws OL:=by rw [hOL]; exact HL
     have hOLlt:∀ y∈OL,y.1<ws.heap.size:=fun y hy=>B2 (HL'.blk y hy)
     have hOLoo:∀ y∈OL,y.1≠oo:=fun y hy=>by
      have h9:=H.perm (List.perm_middle (l₁:=[_,_]) (l₂:=[_,_,_,_]));rw [hOL] at hy;exact fun h=>(List.pairwise_cons.1 h9.nd).1 y hy h.symm
     obtain ⟨hD,hhD⟩:∃ hD,hD=ws.heap.size:=⟨_,rfl⟩
     have hM:∀ {w':World} {st:Nat→Slo} {sel:Nat→List Nat},OutR w0 w' oo nn g pf st sel (fun x=>x<ws.heap.size+2)→∀ x,Ni oo nn st x→x<w'.heap.size∧x≠ws.heap.size∧x≠ws.heap.size+1:=fun {w' st sel} RO x hx=>by
      rcases hx with rfl | ⟨u,hu,y,hy,rfl⟩
      ·exact ⟨B2 RO.tbl,by omega,by omega⟩
      ·have h1:=RO.blk u hu y hy;have h2:=B2 h1.1;have h3:¬ y.1<ws.heap.size+2:=h1.2.2.1;exact ⟨h2,by omega,by omega⟩
     refine Kw (gf:=212) U WE (QX (b1:=x1) (b2:=x2) (b3:=x3) (a:=a) (b:=b) (p:=p) (c:=c) (d:=d) (r:=r) hw hp) (by kernel_rfl) (by kernel_rfl) (fun v hv=>by obtain ⟨p,-,rfl⟩:=List.mem_map.1 hv; rfl)
      (fun i M w'=>∃ st,M=Ni oo nn st∧OutR w0 w' oo nn g pf st (fun u=>HU g (l.take i) u) (fun x=>x<ws.heap.size+2)∧(∀ u,u<nn→(st u).n≤i)∧Ctx w0 [] w' OL∧w'.heap[x1]? = some (Bl 28 [.int .i64 (nn:Int),.slice a es.length c])∧w'.heap[x2]? = some (Bl 29 [.slice p pot.length r])∧w'.heap[x3]? = some (Bl 29 [.slice b fl.length d]))
      (fun _=>False) (by simp)
      (fun w2 hx2 _=>⟨_,fun _=>⟨none,0,0,[]⟩,rfl,⟨hx2.to hoo (by simp),fun u _=>OS.nil,(fun u _ y hy=>by cases hy),(fun u v _ _ _ y hy=>by cases hy)⟩,fun u _=>Nat.le_refl _,HL'.call hx2,hx2.to hb1 (by simp),hx2.to hb2 (by simp),hx2.to hb3 (by simp)⟩)
      (fun i M w' w'' hJ hx=>?_) (fun _ _ h _=>h) (fun i M w' hJ=>?_) ?_ ?_ (fun _ h _=>h.elim)
     ·obtain ⟨st,h1,RO,hni,HJ,g1,g2,g3⟩:=hJ;refine ⟨st,h1,RO.keep hx fun x hx hm=>?_,hni,HJ.step hx (fun y hy=>?_) fun z hz => .inr ?_,hx.to g1 ?_,hx.to g2 ?_,hx.to g3 ?_⟩
      ·have:=hM RO x hm;simp only [List.mem_cons,List.not_mem_nil,or_false] at hx;omega
      ·have:=hOLlt y hy;simp only [List.mem_cons,List.not_mem_nil,or_false];omega
      ·simp only [List.mem_cons,List.not_mem_nil,or_false] at hz;omega
      ·simp only [List.mem_cons,List.not_mem_nil,or_false]; omega
      ·simp only [List.mem_cons,List.not_mem_nil,or_false]; omega
      ·simp only [List.mem_cons,List.not_mem_nil,or_false]; omega
     ·obtain ⟨st,rfl,RO,hni,HJ,g1,g2,g3⟩:=hJ;exact ⟨hM RO,g1,g2,g3,R.ext0 HJ.ext,Rf.ext0 HJ.ext,Rp.ext0 HJ.ext⟩
     ·rintro i v _ w hxv ⟨st,rfl,RO,hni,HJ,g1,g2,g3⟩ hsz;unfold JR at hxv;rw [List.getElem?_map,← hl,← hg,← hpf] at hxv;obtain ⟨y,hy,rfl⟩:=Option.map_eq_some_iff.1 hxv;have hil:=CO hy;have hyl:=List.mem_of_getElem? hy
      have hyu:g.u y<nn:=by
       have h1:=hgo.u (a:=y) (by rw [hl] at hyl; have:=Uk hyl; rw [hg]; exact this);rw [hg] at h1 ⊢;exact h1
      obtain ⟨w1,rfl⟩:∃ z,z=w:=⟨_,rfl⟩;have H:=Ctx.start w1 [];refine Aw (Bs U IY H ?_);rintro b13 w - H;refine BL U GM U U U (by exact Ng _ _ _) H at0 U ?_;rintro w H;refine Ab ?_;refine ⟨H.ext,fun wB hxB=>?_⟩;have hb13:=(H.own _ (List.mem_cons_self ..)).elim (fun h=>by cases h) id;have k13:=hxB.to (H.get at0) (by rw [List.mem_singleton]; omega);have ROB:=(RO.keep H.ext (fun x hx=>by cases hx)).keep hxB fun x hx hm=>(hM RO x hm).2.2 (List.mem_singleton.1 hx);have HB:=(HJ.call H.ext).step hxB (fun y hy=>by have:=hOLlt y hy; rw [List.mem_singleton]; omega) (fun z hz => .inr (by rw [List.mem_singleton.1 hz]; omega));have e1:=hxB.to (H.ext.to g1 (by simp)) (by rw [List.mem_singleton]; omega);have e2:=hxB.to (H.ext.to g2 (by simp)) (by rw [List.mem_singleton]; omega);have e3:=hxB.to (H.ext.to g3 (by simp)) (by rw [List.mem_singleton]; omega);have hsB:=hxB.size;have hsH:=H.ext.size
      have HB':=HB;rw [hOL] at HB';have k11:=HB'.get at0;have k36:=HB'.get at1;obtain ⟨u,hu⟩:∃ u,u=g.u y:=⟨_,rfl⟩;rw [← hu] at hyu
      have hnot:∀ x,x≠oo→(x<ws.heap.size+2∨w1.heap.size≤x)→x∉oo::(Ki (st u)).map (·.1):=fun x h1 h2 h=>by
       rcases List.mem_cons.1 h with h | h
       ·exact h1 h
       ·obtain ⟨z,hz,he⟩:=List.mem_map.1 h;have q1:=RO.blk u hyu z hz;have q2:=B2 q1.1;have q3:¬ z.1<ws.heap.size+2:=q1.2.2.1;omega
      have hO11:=hOLoo (b11,_) (by rw [hOL]; exact List.mem_of_getElem? (i:=0) rfl);have hO36:=hOLoo (b36,_) (by rw [hOL]; exact List.mem_of_getElem? (i:=1) rfl);have hl11:=hOLlt (b11,_) (by rw [hOL]; exact List.mem_of_getElem? (i:=0) rfl);have hl36:=hOLlt (b36,_) (by rw [hOL]; exact List.mem_of_getElem? (i:=1) rfl);have hoo1:=B2 RO.tbl;dsimp only at hO11 hO36 hl11 hl36;have n11:=hnot b11 hO11 (.inl (by omega));have n36:=hnot b36 hO36 (.inl (by omega));have n13:=hnot b13 (by omega) (.inr hb13);have hgu:(Ve nn st)[u]? = some (.slice (st u).a (st u).n (st u).c):=DF hyu;have hnu:=hni u hyu;obtain ⟨w2,rfl⟩:∃ z,z=wB:=⟨_,rfl⟩;replace H:=ROB.ctx hyu;have hrow:Gn g pf y=[.int .i64 (y:Int),.int .i64 (u:Int),.int .i64 (g.v y:Int),.int .i64 (g.len pf y)]:=by unfold Gn; rw [← hu]
      refine Av (EG [([0,1,2,3,4,5,6,7,8,9,10,11,12,13,14],15),([],16),([17],18)] (fun z=>z.heap[b11]? = some (Bl 221 [ptr b36])∧z.heap[b36]? = some (Bl 224 (FB oo od oh ob nn))∧z.heap[b13]? = some (Bl 229 (Gn g pf y))∧z.heap[oo]? = some (Bl 230 (Ve nn st))) [18] B0 (by kernel_rfl) (⟨H.drew.ext.to k11 n11,H.drew.ext.to k36 n36,H.drew.ext.to k13 n13,H.drew.get at0⟩) ?_);refine AL U U ?_;refine BM U Hu U (fun _ hx=>(by rw [Au hx.1]; rfl)) ?_;refine B6 U U (AJ U K4 U (BM U Pz U (fun _ hx=>(by rw [Au hx.2.1]; rfl)) ?_));refine AJ U QN U (BM U BG U (fun _ hx=>(by rw [Au hx.2.2.1,hrow]; rfl)) ?_);refine BM U Hu U (fun _ hx=>(by rw [Au hx.1]; rfl)) ?_;refine B6 U U (AJ U K4 U (BM U Pz U (fun _ hx=>(by rw [Au hx.2.1]; rfl)) ?_));refine AJ U QN U (BM U BG U (fun _ hx=>(by rw [Au hx.2.2.1,hrow]; rfl)) ?_);refine AK U Li Lj U U (by omega) (by omega) ?_
      refine BM U S7 U (fun _ hx=>(by rw [Au hx.2.2.2]; simpa using hgu)) ?_;refine Fb _ U S6 GM U U (fun _ hx=>(HR hx.2.2.1)) ?_;refine Bu ?_;replace H:=H.drew;refine D4 (Gn g pf y) (.agg _) U Kd GM IY U (by decide) (by decide) U U U H ?_;rintro b75 w - H;refine Ab (BH (⟨H.ext.to k11 n11,H.ext.to k36 n36,H.ext.to k13 n13,H.get at1⟩) (AL U U ?_));refine Bu (Dr (L:=[(oo,_)]) U Kd Kd GM Abh IY U (by decide) U U H (ROB.os u hyu) U (Ng g pf y) (by omega) ?_);rintro a76 c76 f76 w H O76;refine Ab (BH (⟨H.ext.to k11 n11,H.ext.to k36 n36,H.ext.to k13 n13,H.get at0⟩) (AL U U ?_));refine AK U Li Lj U U (by omega) (by omega) ?_;refine Bu (Cc u (fun q=>sloV (stS st u ⟨a76,(st u).n+1,c76,f76⟩ q)) (.slice _ _ _) U Lj U U U H at0 (by simp) hyu (by rw [GU]; rfl) (fun q _ hq=>by rw [Jh hq]) ?_);rintro w H;refine Ab (Cg U (BS (A3 ?_)));have hss:=Vf (g:=g) hy;rw [← hu] at hss
      have hO':OS a76 ((st u).n+1) c76 4 f76 ((HU g (l.take (i+1)) u).flatMap (Gn g pf)):=by rw [hss.1,List.flatMap_append]; simpa using O76
      have h02:w0.heap.size≤w2.heap.size:=by omega
      obtain ⟨RO',hnewM⟩:=ROB.step hyu (s:=⟨a76,(st u).n+1,c76,f76⟩) (sel':=fun q=>HU g (l.take (i+1)) q) (fun x hx=>by have hx:x<ws.heap.size+2:=hx; omega) h02 H hO' (fun q hq=>hss.2 q hq)
      have hidM:∀ x∈oo::(Ki (st u)).map (·.1),Ni oo nn st x:=fun x hx=>by
       rcases List.mem_cons.1 hx with h | h
       ·exact .inl h
       ·obtain ⟨z,hz,he⟩:=List.mem_map.1 h;exact .inr ⟨u,hyu,z,hz,he⟩
      refine ⟨_,⟨stS st u ⟨a76,(st u).n+1,c76,f76⟩,rfl,RO',fun q hq=>?_,HB.step H.ext (fun z hz=>hnot z.1 (hOLoo z hz) (.inl (by have:=hOLlt z hz; omega))) (fun z hz => .inr ?_),H.ext.to e1 (hnot x1 (by omega) (.inl (by omega))),H.ext.to e2 (hnot x2 (by omega) (.inl (by omega))),H.ext.to e3 (hnot x3 (by omega) (.inl (by omega)))⟩,fun x hx=>?_,_,H.ext,fun x hx => .inl (hidM x hx)⟩
      ·by_cases e:q=u
       ·subst e; rw [GU]; dsimp only; omega
       ·rw [Jh e]; have:=hni q hq; omega
      ·rcases List.mem_cons.1 hz with h | h
       ·rw [h]; exact hooge
       ·obtain ⟨t,ht,he⟩:=List.mem_map.1 h;have:=(RO.blk u hyu t ht).2.1;omega
      ·exact (hnewM x hx).imp id fun h=>by omega
     ·rintro M w ⟨st,rfl,RO,hni,HJ,-,-,-⟩ hD;have htk:l.take (JR (grE (nn:Int) es) (EB pot) (Eu (Cv es) (flE fl) es.length)).length=l:=List.take_of_length_le (by unfold JR; rw [List.length_map,← hl]; exact Nat.le_refl _);simp only [htk] at RO;clear hni htk;obtain ⟨w5,rfl⟩:∃ z,z=w:=⟨_,rfl⟩;have h59:∀ x,Ni oo nn st x→x<w5.heap.size:=fun x hx=>(hM RO x hx).1;have h5D:=B2 hD;obtain ⟨ids,hids⟩:∃ ids,ids=OL.map (·.1):=⟨_,rfl⟩
      have hidM:∀ x∈ids,¬ Ni oo nn st x:=fun x hx hm=>by
       rw [hids] at hx;obtain ⟨y,hy,rfl⟩:=List.mem_map.1 hx;have a1:=hOLlt y hy;have a2:=hOLoo y hy
       rcases hm with h | ⟨u,hu,z,hz,he⟩
       ·exact a2 h
       ·have h3:=(RO.blk u hu z hz).2.2.1;apply h3;show z.1<_;omega
      have hidD:ws.heap.size∉ids:=fun hx=>by
       rw [hids] at hx;obtain ⟨y,hy,he⟩:=List.mem_map.1 hx;have a1:=hOLlt y hy;omega
      have hB:∀ {w':World} {L':List (Nat × Obj)},Ctx w5 ids w' L'→Ctx w0 [] w' L':=fun h=>(Ctx.back (L1:=OL) (L2:=[]) HJ.app_nil (by rw [← hids]; exact h)).nil_app
      have hnotL:∀ x,Ni oo nn st x→∀ {w':World} {L':List (Nat × Obj)},Ctx w5 ids w' L'→x∉L'.map (·.1):=fun x hx {w' L'} h hm=>by
       obtain ⟨y,hy,he⟩:=List.mem_map.1 hm
       rcases h.own y hy with h1 | h1
       ·rw [he] at h1; exact hidM x h1 hx
       ·have:=h59 x hx; omega
      have H:Ctx w5 ids w5 OL:=by rw [hids]; exact HJ.app_nil.lend
      rw [hOL] at H;clear hids;obtain ⟨A,hA⟩:∃ A,A=LH g (Cv es) (flE fl) pf:=⟨_,rfl⟩;have hF:=PK hfit;rw [← hg,← hpf] at hF
      have hlb:∀ a,g.len pf a≤2199023256552 ∧ -2199023256552≤g.len pf a:=fun a=>by
       rw [hg,hpf]; exact Zx hr (Zy hp) a
      have hgN:g.N=nn:=by rw [hg]; rfl
      have hgE:g.E=es.length:=by rw [hg]; rfl
      have hArcs:PE A nn 2199023256552:=by rw [hA,← hgN]; exact hF.arcs hgo fun a _=>(hlb a).1
      have hlE:l=Eu (Cv es) (flE fl) g.E:=by rw [hgE]; exact hl
      have hAf:∀ u,A.filter (fun a=>decide (a.1=u))=(HU g l u).map (Iz g pf):=fun u=>by rw [hA,hlE]; exact QZ g _ _ pf u
      have hsl:∀ u,(HU g l u).length≤400:=fun u=>Nat.le_trans (List.length_filter_le _ _) hlen400;have hdeg:∀ u,HT A u≤400:=fun u=>by unfold HT; rw [hAf,List.length_map]; have:=hsl u; omega
      have hsn:src.length≤nn:=K9 nn src hnd hsrc;have hfr:src≠[]→(adr fr).block<w0.heap.size:=fun h=>Rd.lt Rs (by simpa using h) (fun x _=>⟨_,rfl⟩) (by decide)
      have hselx:∀ u,u<nn→∀ x∈HU g l u,g.u x=u∧g.v x<nn∧x<2*es.length:=fun u _ x hx=>by
       obtain ⟨h1,h2⟩:=List.mem_filter.1 hx;have h3:x<2*es.length:=by rw [hl] at h1; exact Uk h1
       have h4:=hgo.v (a:=x) (by rw [hgE]; exact h3);exact ⟨of_decide_eq_true h2,by rw [← hgN]; exact h4,h3⟩
      have hstn:∀ u,u<nn→(st u).n=(HU g l u).length:=fun u hu=>(RO.os u hu).numN (fun _ _=>rfl) (by decide)
      have hget:∀ u,u<nn→(Ve nn st)[u]? = some (.slice (st u).a (HU g l u).length (st u).c):=fun u hu=>by
       have:=DF (f:=fun u=>sloV (st u)) hu;rw [← hstn u hu]; exact this
      have hrow:∀ {w':World} {S:List Nat},Ext S w5 w'→(∀ x∈S,x∈ids)→∀ u,u<nn→Rd w' (st u).a 4 (Gn g pf) (HU g l u):=fun {w' S} hx hS u hu=>by
       have RO':=RO.keep hx fun x hx'=>hidM x (hS x hx');exact (RO'.os u hu).rd (t:=229) (fun y hy=>(RO'.blk u hu y hy).1) (fun _ _=>rfl) (by decide)
      have hrowM:∀ u,u<nn→HU g l u≠[]→Ni oo nn st (adr (st u).a).block:=fun u hu hne=>by
       obtain ⟨b,hb⟩:=(RO.os u hu).form (by rw [hstn u hu]; exact List.length_pos_iff.2 hne);exact Or.inr ⟨u,hu,(b,Bl 229 (st u).full),by show _∈ent (st u).a _ _; rw [YN hb]; exact List.mem_cons_self ..,by rw [hb]; rfl⟩
      have hooM:Ni oo nn st oo := .inl rfl;refine A3 (Aa (Ag (Al U Acx (Zr _) U ?_)));rintro v w ⟨bh,rfl,hbh,hbhv,hx78⟩;replace H:=H.callAdd hx78 hbhv hbh;have Hp0:=H.perm (List.perm_middle (l₁:=[_,_,_]) (l₂:=[_,_,_]));have hlb0:=Z3;have Hp:Ctx w5 ids w (NBl od nn (lb0 []) bh none 0 0 []++[(b11,Bl 221 [ptr b36]),(b36,Bl 224 (FB oo od oh ob nn)),(oh,Bl 3 (B9 (fun _=>0) nn)),(ob,Bl 3 (B9 (fun _ => -1) nn)),(b4,Bl 28 [.int .i64 (nn:Int),.slice a es.length c])]):=by show Ctx w5 ids w ((od,Bl 2 (B9 (lb0 []).d nn))::_); rw [hlb0]; exact Hp0
      refine D7 U U (Ab (Aa (Aq (Ag (AA U Hu U H at1 U (Ba U U (Ap U U (Al U Acy (Xs (Ctx.lend Hp) OS.nil (Hp.get at3) (Ta (Hp.comm).nd (x:=(b36,_)) (List.mem_of_getElem? (i:=1) U)) ((Rs.ext0 (hB Hp).ext)) (fun hne hm=>by have h1:=hfr hne; have h2:=(hB Hp.left).own; obtain ⟨y,hy,he⟩:=List.mem_map.1 hm; rcases h2 y hy with h | h; cases h; omega) (by omega) hsrc hnd (by omega)) U ?_))))))));rintro v w ⟨rfl,a0,c0,f0,L0,hp0,hH0,O0,H2⟩;replace H:=Ctx.comm (L:=NBl od nn (lb0 src) bh a0 src.length c0 f0) (Ctx.back Hp H2);refine Bv U U (Ab (Aa (Ay _ U ?_ ?_)))
      ·intro h4;replace h4:=Bo h4;have:=of_decide_eq_false h4;omega
      ·intro h4;replace h4:=Bp h4;refine Ax (Aa (Aq (Av ?_)));have hn0:src.length=L0.length:=O0.numN (fun _ _=>rfl) (by decide);have hps:=Vg (n:=nn) (A:=A) (src:=src) (d:=400) (by omega) fun v _=>hdeg v;have hps2:(nn:Int)*(400*((nn:Int)+1))≤40*(400*41):=Int.mul_le_mul (by omega) (by omega) (by omega) (by omega);refine Bd 81129619071793567861722210074624 (α:=WSt) (fun _=>[]) (fun t w'=>MI A src nn 2199023256552 t.D t.s t.L∧HeapL t.L∧OS t.a t.hn t.c 2 t.full (t.L.flatMap EA)∧psi nn A t.D t.s t.L≤1000000∧Ctx w5 ids w' ([(b11,Bl 221 [ptr b36]),(b36,Bl 224 (FB oo od oh ob nn)),(ob,Bl 3 (B9 (fun _ => -1) nn)),(b4,Bl 28 [.int .i64 (nn:Int),.slice a es.length c])]++GB od oh nn t.s bh t.a t.hn t.c t.full)) (fun t=>(psi nn A t.D t.s t.L).toNat) ⟨lb0 src,a0,src.length,c0,f0,L0,-1⟩ U ?_ ?_ ?_
       ·exact trivial
       ·refine ⟨(MI.start hsrc hnd).perm hp0.symm,hH0,O0,?_,?_⟩
        ·dsimp only;rw [Nh hp0];omega
        ·exact H.perm (List.Perm.cons _ (List.Perm.cons _ (List.perm_middle (l₁:=[_,_,_])).symm))
       ·rintro ⟨s,a',hn,c',full,L,D⟩ j w ⟨MM,hH,O,hpsi,H⟩; dsimp only at MM hH O hpsi H; dsimp only;have hnl:hn=L.length:=O.numN (fun _ _=>rfl) (by decide);have hpl:=PJ (n:=nn) (A:=A) (D:=D) (s:=s) (hp:=L);refine Aq (Ag (Ba U U (Al U Acz (Zs (H.get (k:=6) U)) U ?_)));rintro v w ⟨rfl,rfl⟩;refine Ct U U U (Ab (Aa (Ay _ U ?_ ?_)))
        ·intro h5;replace h5:=AG h5
         obtain ⟨⟨d,v⟩,L1,rfl⟩:∃ t L1,L=t::L1:=by
          cases L with
          | nil=>simp at hnl; omega
          | cons t L1=>exact ⟨t,L1,rfl⟩
         obtain ⟨q,rfl⟩:=O.form (by omega)
         have hmin:∀ x∈L1,d≤x.1:=fun x hx=>by
          obtain ⟨i,hi⟩:=List.getElem?_of_mem hx;have h:=hH.root (r:=(d,v)) rfl (i+1) x (by simpa using hi)
          rcases h with h | h
          ·exact Int.le_of_lt h
          ·exact Int.le_of_eq h.1
         have hvn:=MM.top hArcs;dsimp only at hvn;obtain ⟨dv,hdv⟩:∃ dv,dv=s.d v:=⟨_,rfl⟩;have hgd:(tab s.d nn)[v]? = some dv:=by rw [BZ hvn,hdv]
         refine Ax (Aa (Av (Ag (Ba U U ?_))));have Hc:=Ctx.comm (L:=[_,_,_,_,_,_]) (L':=HB bh (some ⟨q,0,none⟩) hn c' full) H;refine Al U Ac0 (Ad9 (Ctx.lend (L1:=HB bh (some ⟨q,0,none⟩) hn c' full) (L2:=[_,_,_,_,_,_]) Hc) O (by omega) hH) U ?_;rintro rv w ⟨rfl,f2,L2,hp2,hH2,O2,H2⟩;replace H:=Ctx.comm (L:=HB bh (some ⟨q,0,none⟩) L1.length c' f2) (L':=[_,_,_,_,_,_]) (Ctx.back (L1:=HB bh (some ⟨q,0,none⟩) hn c' full) (L2:=[_,_,_,_,_,_]) Hc H2);refine BK U U (A6 U U U (A6 U U U (A6 U U U (Ad U U (Ad U U (Ad U U (Ab (Aa ?_))))))));have MM2:MI A src nn 2199023256552 D s ((d,v)::L2):=MM.perm ((hp2.cons _).symm);have hmin2:∀ x∈L2,d≤x.1:=fun x hx=>hmin x (hp2.mem_iff.1 hx);have hps3:psi nn A D s ((d,v)::L2)=psi nn A D s ((d,v)::L1):=Nh (hp2.cons _);refine Ag (Ae U U (AA U Hu U H at0 U (AZ U U (Ah U Eh U (AA U BC U H at1 U (Ae U U (Bi U AU Bz U U (by omega) (by omega) ?_)))))))
         refine AY U Bx U (((Cu (H.get at4)).fld hgd U (j:=0) U)) ?_;refine BQ U U U (Ab (Aa (Ay _ U ?_ ?_)))
         ·intro h6;replace h6:=AG h6;have he:(d,v).1=s.d (d,v).2:=by dsimp only; rw [← hdv]; exact h6
          obtain ⟨La,hLa⟩:∃ La,La=HU g l v:=⟨_,rfl⟩;have hll:La.length≤400:=by rw [hLa]; exact hsl v
          have hfold:∀ k,(goP g pf s L2 (La.take k))=(((La.take k).map (Iz g pf)).foldl I0 (s,L2)):=fun k=>rfl
          have hgoes:∀ k,DJ A src nn 2199023256552 (goP g pf s L2 (La.take k)).1:=fun k=>by
           rw [hfold];exact (MM2.go hArcs (by omega) (by omega) hmin2 he (l:=(La.take k).map (Iz g pf)) (l1:=(La.drop k).map (Iz g pf)) (by rw [← List.map_append,List.take_append_drop,hLa]; exact hAf v)).1
          obtain ⟨M3,hps4⟩:=(MM2.go hArcs (by omega) (by omega) hmin2 he (l:=La.map (Iz g pf)) (l1:=[]) (by rw [List.append_nil,hLa]; exact hAf v)).2 rfl;have RO1:=RO.keep H.ext hidM;have RX:=hrow H.ext (fun _ h=>h) v hvn;have hgv:=hget v hvn;rw [← hLa] at RX hgv;refine Aw (AA U Hu U H at0 U (Ba U U (Ae U U ?_)));have Hc:=Ctx.comm (L:=[_,_,_,_]) (L':=GB od oh nn s bh (some ⟨q,0,none⟩) L1.length c' f2) H
          refine Al U Ac1 (Zw (Ctx.lend (L1:=GB od oh nn s bh (some ⟨q,0,none⟩) L1.length c' f2) (L2:=[_,_,_,_]) Hc) O2 hH2 (H.get at1) (Ta (L:=[_,_,_,_]) H.nd (x:=(b36,_)) (List.mem_of_getElem? (i:=1) U)) RO1.tbl (hnotL oo hooM (Ctx.left (L':=[_,_,_,_]) Hc)) hgv hvn RX (fun hne=>hnotL _ (hrowM v hvn (hLa ▸ hne)) (Ctx.left (L':=[_,_,_,_]) Hc)) (by omega) (fun x hx=>by rw [hLa] at hx; have h7:=hselx v hvn x hx; have h8:=hlb x; exact ⟨h7.1,h7.2.1,by omega,by omega⟩) (by simp only [List.length_cons] at hnl hpl; omega) (fun k x _=>by have h7:=(hgoes k).dist (by omega) (by omega) x; exact ⟨h7.1,by omega,by omega⟩)) U ?_;rintro rv w ⟨rfl,a3,hn3,c3,f3,L3,hp3,hH3,O3,H3⟩;replace H:=Ctx.comm (L:=GB od oh nn (goP g pf s L2 La).1 bh a3 hn3 c3 f3) (L':=[_,_,_,_]) (Ctx.back (L1:=GB od oh nn s bh (some ⟨q,0,none⟩) L1.length c' f2) (L2:=[_,_,_,_]) Hc H3);refine Ab (A3 (Aa ?_))
          have hps7:psi nn A d (goP g pf s L2 La).1 (goP g pf s L2 La).2+1≤psi nn A D s ((d,v)::L2):=hps4
          have hps5:psi nn A d (goP g pf s L2 La).1 L3+1≤psi nn A D s ((d,v)::L1):=by
           rw [Nh hp3,← hps3]; exact hps7
          have hps6:=PJ (n:=nn) (A:=A) (D:=d) (s:=(goP g pf s L2 La).1) (hp:=L3);exact ⟨⟨(goP g pf s L2 La).1,a3,hn3,c3,f3,L3,d⟩,rfl,trivial,⟨MI.perm M3 hp3.symm,hH3,O3,by dsimp only; omega,H⟩,by dsimp only; omega⟩
         ·intro h6;replace h6:=AH h6;have hne:(d,v).1≠s.d (d,v).2:=by dsimp only; rw [← hdv]; exact h6
          obtain ⟨M3,hps4⟩:=MM2.drop hArcs hmin2 hne;have hps6:=PJ (n:=nn) (A:=A) (D:=d) (s:=s) (hp:=L2);refine Ax (A3 (Aa ?_));exact ⟨⟨s,some ⟨q,0,none⟩,L1.length,c',f2,L2,d⟩,rfl,trivial,⟨M3,hH2,O2,by dsimp only at hps4 ⊢; omega,H⟩,by dsimp only at hps4 ⊢; omega⟩
        ·intro h5;replace h5:=AH h5;obtain rfl:L=[]:=List.eq_nil_of_length_eq_zero (by omega);have DN:=MM.ends;have hsd:=fun v=>MM.dj.dist (by omega) (by omega) v;have hge:∀ u,u<nn→g.u u=g.u u:=fun _ _=>rfl;have RO1:=RO.keep H.ext hidM;have hooG:=hnotL oo hooM H;have Hp4:=H.perm (List.perm_middle (l₁:=[_,_]) (l₂:=[_,_,_]++_));have hobM:∀ u,u<nn→HU g l u≠[]→(adr (st u).a).block≠ob:=fun u hu hne e=>hnotL _ (hrowM u hu hne) H (by rw [e]; exact List.mem_map.2 ⟨(ob,_),List.mem_of_getElem? (i:=2) rfl,rfl⟩)
         refine Bc (Aj (Aj (AD (Aa (Ag (AA U Hu U H at0 U (Al U Ac2 (Xt (outL:=fun u=>HU g l u) (g:=g) (p:=pf) (s:=s) (H.get at2) (H.get at1) (H.get at4) (H.get at5) RO1.tbl (H.ne at1 at2 (by decide)) (H.ne at4 at2 (by decide)) (H.ne at5 at2 (by decide)) (fun e=>hooG (by rw [e]; exact List.mem_map.2 ⟨(ob,_),List.mem_of_getElem? (i:=2) rfl,rfl⟩)) (by omega) (fun v=>by have h7:=hsd v; omega) (fun u hu=>⟨_,_,hget u hu,hrow H.ext (fun _ h=>h) u hu,hobM u hu,by have:=hsl u; omega,fun x hx=>by have h7:=hselx u hu x hx; have h8:=hlb x; exact ⟨h7.1,h7.2.1,by omega,by omega,by omega⟩⟩)) U ?_)))))));rintro rv w ⟨rfl,by',BB,H3⟩;replace H:=Ctx.back (L1:=[_]) (L2:=[_,_,_,_,_]++_) Hp4 H3;refine Ab (Aa (DQ (fun x=>x=_) B0 (by kernel_rfl) U ?_));refine Ce U Hu U (by rintro _ rfl; exact H.drew) at1 U ?_;refine Bm U U (A7 U Eh U (Ce U BC U (by rintro _ rfl; exact H.drew) at2 U ?_))
         refine Ce U Hu U (by rintro _ rfl; exact H.drew) at1 U ?_;refine Bm U U (A7 U IW U (Ce U FG U (by rintro _ rfl; exact H.drew) at2 U ?_));refine Oc U U (Oc U U (Cm U U (Ca ?_)));rintro _ rfl;replace H:=H.drew;refine A9 (Z1 U U U U ?_);have hodlt:=hOLlt (od,_) (by rw [hOL]; exact List.mem_of_getElem? (i:=2) rfl);have hoblt:=hOLlt (ob,_) (by rw [hOL]; exact List.mem_of_getElem? (i:=4) rfl);dsimp only at hodlt hoblt
         have hall:∀ a,a∈HU g l (g.u a)→a<2*g.E∧0<CE (Cv es) (flE fl) a:=fun x hx=>by
          have h1:=(List.mem_filter.1 hx).1;rw [hlE] at h1;obtain ⟨h2,h3⟩:=List.mem_filter.1 h1;exact ⟨List.mem_range.1 h2,of_decide_eq_true h3⟩
         have BY:=Aea (cap:=Cv es) (x:=flE fl) (by rw [← hA]; exact DN) (by rw [← hA]; exact hArcs) BB hall (fun x h1 h2=>⟨by rw [← hgN]; exact hgo.u h1,List.mem_filter.2 ⟨by rw [hlE]; exact List.mem_filter.2 ⟨List.mem_range.2 h1,decide_eq_true h2⟩,decide_eq_true rfl⟩⟩);refine G6 (H.ext.to hD hidD) U fun wF hxF=>⟨od,ob,s,by',rfl,?_,?_,fun v=>?_,?_⟩
         ·rw [hA,hg,hpf] at DN; exact DN
         ·rw [hg,hpf] at BY; exact BY
         ·rcases BB.val v with h | ⟨x,h1,h2,-⟩
          ·exact .inl h
          ·exact .inr ⟨x,h1,by rw [← hgE]; exact (hall x h2).1⟩
         ·refine ((hB H).sub (L':=[(od,Bl 2 (B9 s.d nn)),(ob,Bl 3 (B9 by' nn))]) (fun x hx=>?_) ?_).step hxF (fun x hx=>?_) fun x hx => .inr ?_
          ·simp only [List.mem_cons,List.not_mem_nil,or_false] at hx
           rcases hx with rfl | rfl
           ·exact List.mem_of_getElem? (i:=4) U
           ·exact List.mem_of_getElem? (i:=0) U
          ·simp only [List.pairwise_cons,List.mem_singleton,forall_eq,List.not_mem_nil,false_imp_iff,implies_true,List.Pairwise.nil,and_true];exact H.ne at4 at0 (by decide)
          ·simp only [List.mem_cons,List.not_mem_nil,or_false] at hx;rw [List.mem_singleton]
           rcases hx with rfl | rfl
           ·dsimp only; omega
           ·dsimp only; omega
          ·rw [List.mem_singleton.1 hx]; exact hs07

end Go.Proofs.YtapphbmlkdhnmaaGreat
