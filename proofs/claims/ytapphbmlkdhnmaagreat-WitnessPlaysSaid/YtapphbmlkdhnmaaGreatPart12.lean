/- Part 12 of the proof. -/
import Derived.Test.YtapphbmlkdhnmaaGreatPart2
import Derived.Test.YtapphbmlkdhnmaaGreatPart11
import Derived.Test.YtapphbmlkdhnmaaGreatPart4
import Derived.Test.YtapphbmlkdhnmaaGreatPart3
/- The rooms and the dues of a right round. -/
namespace Go.Proofs.YtapphbmlkdhnmaaGreat
open Go.GV
attribute [local irreducible] AC W Wq Wt

/-- What lies behind the dues. -/
theorem Mj {r:Rnd} (W:WR r) {i:Nat} {e:Ed} (hi:r.ids.length≤i) (he:r.es[i]? = some e):r.cmp=false∧(r.es.length:Int)=r.ids.length+2*(r.N - 1) ∧
  ((∃ b:Nat,i=r.ids.length+2*b∧(b:Int)<r.N - 1∧e.f=r.N - 1∧e.t=b∧e.cost=0)∨(∃ b:Nat,i=r.ids.length+2*b+1∧(b:Int)<r.N - 1∧e.f=b∧e.t=r.N - 1∧e.cap=4503599627370496∧e.cost=0)):=by
 have hr:=W.rest;have hl:=CO he;have hde:=W.de;unfold GY at hr
 by_cases hc:r.cmp=true
 ·rw [if_pos hc,decide_eq_true_eq,List.length_drop] at hr;omega
 ·rw [if_neg hc,Bool.and_eq_true,decide_eq_true_eq,List.length_drop,List.all_eq_true] at hr;obtain ⟨h1,h2⟩:=hr;have hN:=W.N1;refine ⟨by simpa using hc,by omega,?_⟩;obtain ⟨b,hb⟩:∃ b,b=(i - r.ids.length) / 2:=⟨_,rfl⟩;have h3:=h2 b (List.mem_range.2 (by omega));unfold FU at h3;rw [Bool.and_eq_true,decide_eq_true_eq,decide_eq_true_eq] at h3
  rcases Nat.mod_two_eq_zero_or_one (i - r.ids.length) with h4 | h4
  ·left;have hib:i=r.ids.length+2*b:=by omega
   have h5:(r.es.drop r.ids.length).getD (2*b) e0=e:=Bn (by rw [List.getElem?_drop,← hib]; exact he);rw [h5] at h3;obtain ⟨⟨g1,g2⟩,g3⟩:=U2.1 h3.1;exact ⟨b,hib,by omega,g1,g2,g3⟩
  ·right;have hib:i=r.ids.length+2*b+1:=by omega
   have h5:(r.es.drop r.ids.length).getD (2*b+1) e0=e:=Bn (by rw [List.getElem?_drop,← Nat.add_assoc,← hib]; exact he);rw [h5] at h3;have h6:=h3.2;subst h6;exact ⟨b,hib,by omega,rfl,rfl,rfl,rfl⟩
def T2 (r:Rnd) (i:Nat):Du:=⟨r.ids.getD i 0,(r.es.getD i e0).f,(r.es.getD i e0).t,(r.es.getD i e0).cap,-(r.es.getD i e0).cost,0,false⟩
def JS (r:Rnd) (k:Nat):List Du:=(List.range k).map (T2 r)
def CP (r:Rnd) (i b:Nat):Int:=if r.ids.length+2*b<i then (r.es.getD (r.ids.length+2*b) e0).cap else 0
def Gx (r:Rnd):List Int:=tab (CP r r.es.length) (r.N - 1).toNat
def He (r:Rnd):List Int × List Du × Int:=if Bw r=true then (Gx r,JS r r.ids.length,0) else ([],[],1)
theorem FX (r:Rnd) (k:Nat):(JS r k).length=k:=by unfold JS; rw [List.length_map,List.length_range]
theorem N4 {r:Rnd} {k:Nat} {x:Int} {e:Ed} (hx:r.ids[k]? = some x) (he:r.es[k]? = some e):JS r (k+1)=JS r k++[⟨x,e.f,e.t,e.cap,-e.cost,0,false⟩]:=by
 unfold JS;rw [List.range_succ,List.map_append];show _++[T2 r k]=_;unfold T2;rw [Bn hx,Bn he]
theorem RV {r:Rnd} {i b:Nat} (h:i=r.ids.length+2*b+1) (q:Nat):CP r (i+1) q=CP r i q:=by
 unfold CP
 by_cases h1:r.ids.length+2*q<i
 ·rw [if_pos h1,if_pos (by omega)]
 ·rw [if_neg h1,if_neg (by omega)]
theorem Pe {r:Rnd} {i b:Nat} {e:Ed} (h:i=r.ids.length+2*b) (he:r.es[i]? = some e):CP r (i+1) b=e.cap∧∀ q,q≠b→CP r (i+1) q=CP r i q:=by
 refine ⟨?_,fun q hq=>?_⟩
 ·unfold CP;rw [if_pos (by omega),Bn (by rw [← h]; exact he)]
 ·unfold CP
  by_cases h1:r.ids.length+2*q<i
  ·rw [if_pos h1,if_pos (by omega)]
  ·rw [if_neg h1,if_neg (by omega)]
def JG (w:World) (r:Rnd) (v:Value) (w':World):Prop :=
 ∃ vR vD,v = .tuple #[vR,vD,.int .i64 (He r).2.2]∧Sl w w' vR 1 I1 (He r).1∧Sl w w' vD 7 DW (He r).2.1∧Ext [] w w'
theorem Sl.nil {α:Type} {w w':World} {s:Nat} {enc:α→List Value}:Sl w w' (.slice none 0 0) s enc []:=⟨none,0,rfl,Nat.le_refl _,Rd.nil,fun h=>absurd rfl h⟩
set_option maxRecDepth 20000 in
set_option maxHeartbeats 4000000 in
theorem Yp (r:Rnd) (q:RSl) (w:World) (RA:RAt w r q) (hEc:r.es.length≤q.cE) (hr:RBnd r):Ret Tryz.prog 37 #[.agg (A8 r q).toArray] w (JG w r):=by
 obtain ⟨w0,rfl⟩:∃ w0,w0=w:=⟨_,rfl⟩;have H:=Ctx.start w0 [];obtain ⟨wr,hwr⟩:∃ wr,wr=Bw r:=⟨_,rfl⟩;refine A2 (fn:=Tryz.f37) Tryz.func37 U [.agg (A8 r q).toArray] U (by kernel_rfl) ?_;refine Ag (Bt U (A8 r q) (.agg _) U U H ?_);rintro b1 w - H;refine A5 U U (A5 U U (Ad U U (Ab (Aa (Aq (Ag (Bh U Cq BW U H at0 U (Al U MQ (FV r q _ (RA.ext0 H.ext) hEc hr) U ?_))))))));rintro v w ⟨rfl,hx8⟩;replace H:=H.call hx8;rw [← hwr];refine Bv U U (Ab (Aa (Ay _ U ?_ ?_)))
 ·intro h1;replace h1:=Bo h1;refine Ag (A5 U U (A5 U U (Ad U U (Ab (Aa (A9 (Am (CZ (v1:=(.slice _ _ _)) (v2:=(.slice _ _ _)) (v3:=(.int _ _)) U U U U U ?_))))))));have h1':Bw r=false:=by rw [← hwr]; simpa using h1
  have hP:He r=([],[],1):=by unfold He; rw [if_neg (by rw [h1']; decide)]
  unfold JG;rw [hP];exact ⟨_,_,rfl,Sl.nil,Sl.nil,H.ext⟩
 ·intro h1;replace h1:=Bp h1;have h1':Bw r=true:=by rw [← hwr]; simpa using h1
  have WW:=HZ h1';have hN1:=WW.N1;have hN17:=WW.N17;have hde:=WW.de;have hd64:=WW.d64;have he200:=WW.e200;have hP:He r=(Gx r,JS r r.ids.length,0):=by unfold He; rw [if_pos h1']
  obtain ⟨hh,hhN⟩:∃ hh:Nat,r.N - 1=hh:=⟨(r.N - 1).toNat,by omega⟩;have RI:=RA.I;have RE:=RA.E;refine Ax (Aa (Ag (Bh U Cq BW U H at0 U (Al U IC (Gw r q _ (by omega)) U ?_))));rintro v w ⟨rfl,hx11⟩;replace H:=H.call hx11;rw [hhN];refine FC U AU Bz Kz FJ U U (by omega) (by omega) (by omega) (by omega) H ?_;rintro b12 w - H;rw [Int.toNat_natCast,Ec] at H;rw [Int.toNat_natCast];refine A5 U U (Ab (Aa (Aq (Ag (Ah U C4 U (Ah U BD U (AA U C5 U H at1 U (AV U BO U (Ae U U (Ab (Aa ?_)))))))))));refine Av ?_
  have hz:(fun _:Nat=>Value.int .i64 0)=fun q => .int .i64 (CP r 0 q):=by
   funext q
   unfold CP;rw [if_neg (by omega)]
  rw [hz] at H;refine Bd 576460752303292520 (α:=LSt) (fun t=>[(17,.int .i64 (t.i:Int)),(3,.slice t.a (min t.i r.ids.length) t.c)]) (fun t w'=>t.i≤r.es.length∧OS t.a (min t.i r.ids.length) t.c 7 t.full ((JS r (min t.i r.ids.length)).flatMap DW)∧Ctx w0 [] w' ([(b12,Bl 2 (B9 (CP r t.i) hh)),(b1,Bl 33 (A8 r q))]++ent t.a 62 t.full)) (fun t=>r.es.length - t.i) ⟨0,none,0,[]⟩ U ?_ ?_ ?_
  ·exact ⟨rfl,by dsimp only; rw [Nat.zero_min]; rfl,trivial⟩
  ·exact ⟨Nat.zero_le _,by dsimp only; rw [Nat.zero_min]; exact OS.nil,H⟩
  ·clear H hz;rintro ⟨i,aD,cD,fD⟩ jj w ⟨hi,O,H⟩; dsimp only at hi O H; dsimp only;refine Ag (AO U U U (Ab (Aa (Aq (Ay _ U ?_ ?_)))))
   ·intro h2;replace h2:=AG h2;obtain ⟨e,he⟩:=AE (l:=r.es) (i:=i) (by omega);have hE1:=CY ((Cb (BN WW.wi).2.1).2.2.2.1 e (List.mem_of_getElem? he));refine Ax (Aa (Aq (Av (Ag (Ae U U (AX RE U BO B3 U U (by omega) (by omega) (by rfl) ?_))))));refine Cd _ U DT B3 U U (((RE.ext0 H.ext).row he U)) ?_;refine Bs U Dn H ?_;rintro b6 w - H;refine Ad U U (BL U B3 U U U (by exact CN _) H at0 U ?_);rintro w H;refine Ab (Aa (Av ?_));replace H:Ctx w0 [] _ ([(b6,Bl 92 (Br e)),(b12,Bl 2 (B9 (CP r i) hh)),(b1,Bl 33 (A8 r q))]++ent aD 62 fD):=H;refine Ag (Ae U U (Ah U Dk U (AA U DS U H at2 U (AV U Bf U (AO U U U (Ai U U (Ab (Aa (Ay _ U ?_ ?_)))))))))
    ·intro h3;replace h3:=AG h3;have h3':i<r.ids.length:=by omega
     obtain ⟨x,hxx⟩:=AE h3';rw [Nat.min_eq_left (Nat.le_of_lt h3')] at O ⊢;refine EG [([0,1,2,3,4,5,6,7,8,9,10,11,12,13,14,15],16),([],17),([],18)] (fun z=>z.heap[b6]? = some (Bl 92 (Br e))∧z.heap[b1]? = some (Bl 33 (A8 r q))∧Rd z q.aI 1 U1 r.ids) [] B0 (by kernel_rfl) (⟨H.drew.get at0,H.drew.get at2,RI.ext0 H.drew.ext⟩) ?_;refine AL U U ?_;refine Bq U U (AJ U Dk U (BM U DS U (fun _ hx=>(by rw [Au hx.2.1]; rfl)) ?_));refine AP U U (C3 RI U Bf Be U U (by omega) (by omega) (by rfl) ?_);refine BM U BR U (fun _ hx=>(hx.2.2.fld hxx rfl (j:=0) rfl)) ?_;refine AJ U CX U (BM U BG U (fun _ hx=>(by rw [Au hx.1]; rfl)) ?_);refine AJ U Dl U (BM U BG U (fun _ hx=>(by rw [Au hx.1]; rfl)) ?_);refine AJ U CD U (BM U Bx U (fun _ hx=>(by rw [Au hx.1]; rfl)) ?_);refine AJ U De U (BM U Bx U (fun _ hx=>(by rw [Au hx.1]; rfl)) ?_);refine Jz U U (by omega) (by omega) ?_
     refine MB (DW ⟨x,e.f,e.t,e.cap,-e.cost,0,false⟩) U WQ FQ (by kernel_rfl) ?_;refine Bu ?_;replace H:=H.drew;refine D4 _ (.agg _) U D0 Dm FQ U (by decide) (by decide) U U U H ?_;rintro b44 w - H;refine Ab (BH (⟨H.get at1,H.get at3,RI.ext0 H.ext⟩) (AL U U ?_));refine Bu (Dr (L:=[_,_,_]) U D0 D0 Dm TU FQ U (by decide) U U H O U (Ff _) (by omega) ?_);rintro aD' cD' fD' w H O;refine Ab (BH (⟨H.get at0,H.get at2,RI.ext0 H.ext⟩) (AL U U ?_));refine Bu (A5 U U (Ab (BH (⟨H.get at0,H.get at2,RI.ext0 H.ext⟩) (BS (A3 (A3 (Aa (Aw (Ao U U U (by omega) (by omega) ?_)))))))));refine Ae U U (Ab (Aa ?_));refine ⟨⟨i+1,aD',cD',fD'⟩,rfl,⟨rfl,by dsimp only; rw [Nat.min_eq_left (show i+1≤r.ids.length by omega)]; rfl,trivial⟩,⟨by dsimp only; omega,?_,?_⟩,by dsimp only; omega⟩
     ·dsimp only;rw [Nat.min_eq_left (show i+1≤r.ids.length by omega),N4 hxx he,List.flatMap_append];exact (by simpa using O)
     ·dsimp only
      have hsm:B9 (CP r (i+1)) hh=B9 (CP r i) hh:=List.map_congr_left fun q _=>by
       unfold CP;rw [if_neg (by omega),if_neg (by omega)]
      rw [hsm];exact H.tail
    ·intro h3;replace h3:=AH h3;have h3':r.ids.length≤i:=by omega
     rw [Nat.min_eq_right h3'] at O ⊢;have hm1:min (i+1) r.ids.length=r.ids.length:=Nat.min_eq_right (by omega);have HG:=H;have hb6:=HG.get at0;have hb1:=HG.get at2;obtain ⟨w1,rfl⟩:∃ z,z=w:=⟨_,rfl⟩;have H:=Ctx.start w1 []
     rcases (Mj WW h3' he).2.2 with ⟨b,hib,hbh,hf,ht,-⟩ | ⟨b,hib,hbh,hf,-⟩
     ·skip
      obtain ⟨hr1,hr2⟩:=Pe hib he;refine CI [([0,1,2],3),([4],5)] (fun z=>Ext [] w1 z) [] B0 (by kernel_rfl) (Ext.drew [] w1) ?_;refine AL U U ?_;refine AJ U CX U (BM U BG U (fun _ hx=>(by rw [Au (hx.to hb6 (by simp))]; rfl)) ?_);refine Fb _ U Cq BW U U (fun _ hx=>(BU (b:=b1) (t:=33) (l:=A8 r q) (hx.to hb1 (by simp)) 0 (A8 r q) rfl)) ?_;refine Bu ?_;replace H:=H.drew;refine Al U IC (Gw r q _ (by omega)) U ?_;rintro v w ⟨rfl,hx50⟩;replace H:=H.call hx50;refine Ab (BH (H.ext) (AL U U ?_));refine Wc U U U ?_;rw [show decide (e.f=r.N - 1)=true from decide_eq_true hf];refine Bu (Ai U U (Ab (BH (H.ext) (BS (Dc U (Aw (Ap U U (Ah U Dl U (AY U BG U ((by rw [Au (H.ext.to hb6 (by simp))]; rfl)) ?_)))))))));refine Ah U CD U (AY U Bx U ((by rw [Au (H.ext.to hb6 (by simp))]; rfl)) ?_);replace H:=HG.call H.ext;refine Bi U AU Bz U U (by omega) (by omega) ?_
      refine Cc b (fun q => .int .i64 (CP r (i+1) q)) (.int _ _) U Bz U U U H at1 (by rw [ht]; simp) (by omega) (by rw [hr1]) (fun q _ hq=>by rw [hr2 q hq]) ?_;rintro w H;refine Ab (A3 (A3 (Aa (Aw (Ao U U U (by omega) (by omega) ?_)))));refine Ae U U (Ab (Aa ?_));exact ⟨⟨i+1,aD,cD,fD⟩,rfl,⟨rfl,by dsimp only; rw [hm1]; rfl,trivial⟩,⟨by dsimp only; omega,by dsimp only; rw [hm1]; exact O,Ctx.tail H⟩,by dsimp only; omega⟩
     ·skip
      refine CI [([0,1,2],3),([4],5)] (fun z=>Ext [] w1 z) [] B0 (by kernel_rfl) (Ext.drew [] w1) ?_;refine AL U U ?_;refine AJ U CX U (BM U BG U (fun _ hx=>(by rw [Au (hx.to hb6 (by simp))]; rfl)) ?_);refine Fb _ U Cq BW U U (fun _ hx=>(BU (b:=b1) (t:=33) (l:=A8 r q) (hx.to hb1 (by simp)) 0 (A8 r q) rfl)) ?_;refine Bu ?_;replace H:=H.drew;refine Al U IC (Gw r q _ (by omega)) U ?_;rintro v w ⟨rfl,hx50⟩;replace H:=H.call hx50;refine Ab (BH (H.ext) (AL U U ?_));refine Wc U U U ?_;rw [show decide (e.f=r.N - 1)=false from decide_eq_false (by omega)];refine Bu (Ai U U (Ab (BH (H.ext) (BS (EQ U (Ax (A3 (A3 (Aa (Aw (Ao U U U (by omega) (by omega) ?_)))))))))));refine Ae U U (Ab (Aa ?_));refine ⟨⟨i+1,aD,cD,fD⟩,rfl,⟨rfl,by dsimp only; rw [hm1]; rfl,trivial⟩,⟨by dsimp only; omega,by dsimp only; rw [hm1]; exact O,?_⟩,by dsimp only; omega⟩;dsimp only
      have hsm:B9 (CP r (i+1)) hh=B9 (CP r i) hh:=List.map_congr_left fun q _=>by rw [RV hib]
      rw [hsm];exact Ctx.tail (HG.call H.ext)
   ·intro h2;replace h2:=AH h2;obtain rfl:i=r.es.length:=by omega
    rw [Nat.min_eq_right hde] at O ⊢;refine Bc (Aj (Aj (AD (Aa (Ag (Ap U U (Ap U U (A5 U U (A5 U U (Ad U U (Ab (Aa (A9 (CZ (v1:=(.slice _ _ _)) (v2:=(.slice _ _ _)) (v3:=(.int _ _)) U U U U U ?_))))))))))))));unfold JG;rw [hP];refine ⟨_,_,rfl,⟨some ⟨b12,0,none⟩,hh,?_,?_,?_,fun _=>?_⟩,⟨aD,cD,by dsimp only; rw [FX],by dsimp only; rw [FX]; exact O.le,OS.rd O (fun x hx=>H.blk x (List.mem_append_right _ hx)) (fun _ _=>rfl) (by decide),fun hne=>?_⟩,H.ext⟩
    ·show Value.slice (some ⟨b12,0,none⟩) hh hh=_;unfold Gx;rw [CV,hhN,Int.toNat_natCast]
    ·show (Gx r).length≤hh;unfold Gx;rw [CV,hhN,Int.toNat_natCast]; exact Nat.le_refl _
    ·unfold Gx;rw [hhN,Int.toNat_natCast];exact Cu (H.get at0)
    ·exact (H.own _ (List.mem_append_left _ (List.mem_cons_self ..))).elim (fun h=>by cases h) id
    ·obtain ⟨p,rfl⟩:=O.form (by have:=List.length_pos_iff.2 hne; dsimp only at this; rw [FX] at this; exact this);exact (H.own (p,Bl 62 fD) (List.mem_append_right _ (List.mem_singleton.2 U))).elim (fun h=>by cases h) id
set_option maxRecDepth 20000 in
set_option maxHeartbeats 4000000 in
theorem Yq (r:Rnd) (q:RSl) (w:World) (RA:RAt w r q) (hEc:r.es.length≤q.cE) (hr:RBnd r):Ret Tryz.prog 38 #[.agg (A8 r q).toArray] w (JG w r):=by
 obtain ⟨w0,rfl⟩:∃ w0,w0=w:=⟨_,rfl⟩;have H:=Ctx.start w0 [];obtain ⟨wr,hwr⟩:∃ wr,wr=Bw r:=⟨_,rfl⟩;refine A2 (fn:=Tryz.f38) Tryz.func38 U [.agg (A8 r q).toArray] U (by kernel_rfl) ?_;refine Ag (Bt U (A8 r q) (.agg _) U U H ?_);rintro b1 w - H;refine A5 U U (A5 U U (Ad U U (Ab (Aa (Aq (Ag (Bh U Cq BW U H at0 U (Al U Oo (G9 r q _ (RA.ext0 H.ext) hEc hr) U ?_))))))));rintro v w ⟨rfl,hx12⟩;replace H:=H.call hx12;rw [← hwr];refine Bv U U (Ab (Aa (Ay _ U ?_ ?_)))
 ·intro h1;replace h1:=Bo h1;refine Ag (A5 U U (A5 U U (Ad U U (Ab (Aa (A9 (Am (CZ (v1:=(.slice _ _ _)) (v2:=(.slice _ _ _)) (v3:=(.int _ _)) U U U U U ?_))))))));have h1':Bw r=false:=by rw [← hwr]; simpa using h1
  have hP:He r=([],[],1):=by unfold He; rw [if_neg (by rw [h1']; decide)]
  unfold JG;rw [hP];exact ⟨_,_,rfl,Sl.nil,Sl.nil,H.ext⟩
 ·intro h1;replace h1:=Bp h1;have h1':Bw r=true:=by rw [← hwr]; simpa using h1
  have WW:=HZ h1';have hN1:=WW.N1;have hN17:=WW.N17;have hde:=WW.de;have hd64:=WW.d64;have he200:=WW.e200;have hP:He r=(Gx r,JS r r.ids.length,0):=by unfold He; rw [if_pos h1']
  obtain ⟨hh,hhN⟩:∃ hh:Nat,r.N - 1=hh:=⟨(r.N - 1).toNat,by omega⟩;have RI:=RA.I;have RE:=RA.E;refine Ax (Aa (Ag (Ah U C4 U (Ah U Dj U (AA U BG U H at0 U (Bg U U U (by omega) (by omega) ?_))))));rw [hhN];refine FC U AU Bz Kz FJ U U (by omega) (by omega) (by omega) (by omega) H ?_;rintro b18 w - H;rw [Int.toNat_natCast,Ec] at H;rw [Int.toNat_natCast];refine A5 U U (Ab (Aa (Ag (A5 U U (Ab (Aa (Ag (Ah U Dk U (AA U DS U H at1 U (AV U Bf U (Ad U U ?_)))))))))));refine Ab (Aa (Aq (Ag (Ad U U (Ab (Aa (Av ?_)))))))
  have hz:(fun _:Nat=>Value.int .i64 0)=fun q => .int .i64 (CP r r.ids.length q):=by
   funext q
   unfold CP;rw [if_neg (by omega)]
  rw [hz] at H;refine Bd 2251799809491776 (α:=LSt) (fun t=>[(8,.int .i64 (t.i:Int)),(6,.slice t.a t.i t.c)]) (fun t w'=>t.i≤r.ids.length∧OS t.a t.i t.c 7 t.full ((JS r t.i).flatMap DW)∧Ctx w0 [] w' ([(b18,Bl 2 (B9 (CP r r.ids.length) hh)),(b1,Bl 33 (A8 r q))]++ent t.a 62 t.full)) (fun t=>r.ids.length - t.i) ⟨0,none,0,[]⟩ U ?_ ?_ ?_
  ·exact ⟨rfl,rfl,trivial⟩
  ·exact ⟨Nat.zero_le _,OS.nil,H⟩
  ·clear H hz;rintro ⟨i,aD,cD,fD⟩ jj w ⟨hi,O,H⟩; dsimp only at hi O H; dsimp only;refine Aq (Ag (Ae U U (Ae U U (AO U U U (Ab (Aa (Ay _ U ?_ ?_)))))))
   ·intro h2;replace h2:=AG h2;obtain ⟨e,he⟩:=AE (l:=r.es) (i:=i) (by omega);have h3':i<r.ids.length:=by omega
    obtain ⟨x,hxx⟩:=AE h3';have hE1:=CY ((Cb (BN WW.wi).2.1).2.2.2.1 e (List.mem_of_getElem? he));refine Ax (Aa (Aq (Av (Ag (Ah U C4 U (Ah U BD U (AA U C5 U H at1 U (Ae U U (AX RE U BO B3 U U (by omega) (by omega) (by rfl) ?_)))))))));refine Cd _ U DT B3 U U (((RE.ext0 H.ext).row he U)) ?_;refine Bs U Dn H ?_;rintro b9 w - H;refine BL U B3 U U U (by exact CN _) H at0 U ?_;rintro w H;refine Ab (Aa ?_);replace H:Ctx w0 [] _ ([(b9,Bl 92 (Br e)),(b18,Bl 2 (B9 (CP r r.ids.length) hh)),(b1,Bl 33 (A8 r q))]++ent aD 62 fD):=H;refine EG [([0,1,2,3,4,5,6,7,8,9,10,11,12,13,14,15],16),([],17),([],18)] (fun z=>z.heap[b9]? = some (Bl 92 (Br e))∧z.heap[b1]? = some (Bl 33 (A8 r q))∧Rd z q.aI 1 U1 r.ids) [] B0 (by kernel_rfl) (⟨H.drew.get at0,H.drew.get at2,RI.ext0 H.drew.ext⟩) ?_;refine AL U U ?_;refine Bq U U (AJ U Dk U (BM U DS U (fun _ hx=>(by rw [Au hx.2.1]; rfl)) ?_))
    refine AP U U (C3 RI U Bf Be U U (by omega) (by omega) (by rfl) ?_);refine BM U BR U (fun _ hx=>(hx.2.2.fld hxx rfl (j:=0) rfl)) ?_;refine AJ U CX U (BM U BG U (fun _ hx=>(by rw [Au hx.1]; rfl)) ?_);refine AJ U Dl U (BM U BG U (fun _ hx=>(by rw [Au hx.1]; rfl)) ?_);refine AJ U CD U (BM U Bx U (fun _ hx=>(by rw [Au hx.1]; rfl)) ?_);refine AJ U De U (BM U Bx U (fun _ hx=>(by rw [Au hx.1]; rfl)) ?_);refine Jz U U (by omega) (by omega) ?_;refine MB (DW ⟨x,e.f,e.t,e.cap,-e.cost,0,false⟩) U WQ FQ (by kernel_rfl) ?_;refine Bu ?_;replace H:=H.drew;refine D4 _ (.agg _) U D0 Dm FQ U (by decide) (by decide) U U U H ?_;rintro b49 w - H;refine Ab (BH (⟨H.get at1,H.get at3,RI.ext0 H.ext⟩) (AL U U ?_));refine Bu (Dr (L:=[_,_,_]) U D0 D0 Dm TU FQ U (by decide) U U H O U (Ff _) (by omega) ?_);rintro aD' cD' fD' w H O;refine Ab (BH (⟨H.get at0,H.get at2,RI.ext0 H.ext⟩) (AL U U ?_))
    refine Bu (A5 U U (Ab (BH (⟨H.get at0,H.get at2,RI.ext0 H.ext⟩) (BS (A3 (Aa (Aw (Ae U U (Ao U U U (by omega) (by omega) ?_)))))))));refine Ad U U (Ab (Aa ?_));exact ⟨⟨i+1,aD',cD',fD'⟩,rfl,⟨rfl,rfl,trivial⟩,⟨by dsimp only; omega,by dsimp only; rw [N4 hxx he,List.flatMap_append]; exact (by simpa using O),H.tail⟩,by dsimp only; omega⟩
   ·intro h2;replace h2:=AH h2;obtain rfl:i=r.ids.length:=by omega
    have hel:r.cmp=false→(r.es.length:Int)=r.ids.length+2*(hh:Int):=fun hc=>by
     have hr:=WW.rest;unfold GY at hr;rw [if_neg (by rw [hc]; decide),Bool.and_eq_true,decide_eq_true_eq,List.length_drop] at hr;have:=hr.1;omega
    have hec:r.cmp=true→r.es.length=r.ids.length:=fun hc=>by
     have hr:=WW.rest;unfold GY at hr;rw [if_pos hc,decide_eq_true_eq,List.length_drop] at hr;omega
    obtain ⟨LL,hLL⟩:∃ LL,LL=[(b1,Bl 33 (A8 r q))]++ent aD 62 fD:=⟨_,rfl⟩;refine Bc (Aj (Aj (AD (Aa (Aq (Ag (Ad U U (Ab (Aa (Av (Bd 37778929611157348025344 (α:=Nat) (fun b=>[(10,.int .i64 (b:Int))]) (fun b w'=>(b≤hh∧(r.cmp=true→b=0))∧Ctx w0 [] w' ([(b18,Bl 2 (B9 (CP r (r.ids.length+2*b)) hh)),(b1,Bl 33 (A8 r q))]++ent aD 62 fD)) (fun b=>hh - b) 0 U ?_ ?_ ?_)))))))))))
    ·exact ⟨rfl,trivial⟩
    ·exact ⟨⟨Nat.zero_le _,fun _=>rfl⟩,H⟩
    ·clear H;rintro b jj2 w ⟨⟨hb,hbc⟩,H⟩;refine Aq (Ag (B5 (α:=Unit) 1150669704793161728 (fun _=>[(59,.bool ((decide (b<hh) && !r.cmp)))]) (fun _ w'=>Ctx w0 [] w' ([(b18,Bl 2 (B9 (CP r (r.ids.length+2*b)) hh)),(b1,Bl 33 (A8 r q))]++ent aD 62 fD)) U ?_ ?_))
     ·refine Ae U U (Ap U U (AV U AU U (AO U U U (Ak U U (A4 55 U ?_ ?_)))))
      ·intro h1;replace h1:=AG h1;refine Ah U FZ U (AA U Fx U H at1 U (Bv U U (An U U (.bool _) U (Ab ?_))));exact ⟨rfl,(),rfl,⟨congrArg Value.bool (by rw [Bool.eq_iff_iff]; simp_all; done),trivial⟩,H⟩
      ·intro h2;replace h2:=AH h2;refine Af U (Af U (Af U (A1 U U (.bool _) U (Ab ?_))));exact ⟨rfl,(),rfl,⟨congrArg Value.bool (by rw [Bool.eq_iff_iff]; simp_all; omega),trivial⟩,H⟩
     rintro - j59 w H;refine Ay _ U ?_ ?_
     ·intro h3;rw [Bool.and_eq_true,decide_eq_true_eq,Bool.not_eq_true'] at h3;have hel':=hel h3.2;obtain ⟨e,he⟩:=AE (l:=r.es) (i:=r.ids.length+2*b) (by omega);obtain ⟨hr1,hr2⟩:=Pe (b:=b) rfl he
      have hsm:∀ q,CP r (r.ids.length+2*(b+1)) q=CP r (r.ids.length+2*b+1) q:=fun q=>by
       rw [show r.ids.length+2*(b+1)=r.ids.length+2*b+1+1 by omega];exact RV U q
      have hidx:((r.ids.length:Int)+2*(b:Int)).toNat=r.ids.length+2*b:=by omega
      refine Ax (Aa (Aq (Av (Aw (Ap U U (Ae U U (Ah U C4 U (Ah U BD U (AA U C5 U H at1 U (Ae U U ?_))))))))));refine Ae U U (Cn U U U (by omega) (by omega) ?_);refine Ao U U U (by omega) (by omega) ?_;refine AX RE U BO B3 U U (by omega) (by omega) (by rfl) ?_;rw [hidx];refine Ah U CD U (AY U Bx U (((RE.ext0 H.ext).fld he U (j:=2) U)) ?_);refine Bi U AU Bz U U (by omega) (by omega) ?_;refine Cc b (fun q => .int .i64 (CP r (r.ids.length+2*(b+1)) q)) (.int _ _) U Bz U U U H at0 (by simp) (by omega) (by rw [hsm,hr1]) (fun q _ hq=>by rw [hsm,hr2 q hq]) ?_;rintro w H;refine Ab (A3 (Aa (Aw (Ae U U (Ao U U U (by omega) (by omega) ?_)))));refine Ad U U (Ab (Aa ?_));exact ⟨b+1,rfl,⟨rfl,trivial⟩,⟨⟨by omega,fun h=>by rw [h] at h3; cases h3.2⟩,H⟩,by omega⟩
     ·intro h3;refine Bc (Aj (Aj (AD (Aa (Ag (Ap U U (Ap U U (A5 U U (A5 U U (Ad U U (Ab (Aa (A9 (CZ (v1:=(.slice _ _ _)) (v2:=(.slice _ _ _)) (v3:=(.int _ _)) U U U U U ?_))))))))))))))
      have hel2:r.ids.length+2*b=r.es.length:=by
       cases hc:r.cmp with
       | true=>have h7:=hec hc; have h8:=hbc hc; omega
       | false =>
        have h7:=hel hc;have h8:¬ b<hh:=fun h=>by rw [decide_eq_true h,hc] at h3; cases h3
        omega
      rw [hel2] at H;unfold JG;rw [hP];refine ⟨_,_,rfl,⟨some ⟨b18,0,none⟩,hh,?_,?_,?_,fun _=>?_⟩,⟨aD,cD,by dsimp only; rw [FX],by dsimp only; rw [FX]; exact O.le,OS.rd O (fun x hx=>H.blk x (List.mem_append_right _ hx)) (fun _ _=>rfl) (by decide),fun hne=>?_⟩,H.ext⟩
      ·show Value.slice (some ⟨b18,0,none⟩) hh hh=_;unfold Gx;rw [CV,hhN,Int.toNat_natCast]
      ·show (Gx r).length≤hh;unfold Gx;rw [CV,hhN,Int.toNat_natCast]; exact Nat.le_refl _
      ·unfold Gx;rw [hhN,Int.toNat_natCast];exact Cu (H.get at0)
      ·exact (H.own _ (List.mem_append_left _ (List.mem_cons_self ..))).elim (fun h=>by cases h) id
      ·obtain ⟨p,rfl⟩:=O.form (by have:=List.length_pos_iff.2 hne; dsimp only at this; rw [FX] at this; exact this);exact (H.own (p,Bl 62 fD) (List.mem_append_right _ (List.mem_singleton.2 U))).elim (fun h=>by cases h) id
end Go.Proofs.YtapphbmlkdhnmaaGreat

/- The reference's bytes of a round: the same. -/
namespace Go.Proofs.YtapphbmlkdhnmaaGreat
open Go.GV
attribute [local irreducible] AC W Wq Wt

theorem E5 (a:Option Addr) (c m:Nat) (l:List UInt8) (n:Nat) (k:Int) (w:World) (R:Rd w a 1 B8 l) (hml:l.length=m) (hm:m≤100000000) (hn:n<18446744073709551616) :
  Ret Tryz.prog 90 #[.slice a m c,.int .u64 (n:Int),.int .i64 k] w fun v w'=>Fresh w w' 5 1 v ((NK l n k).map bv):=by
 refine A2 (fn:=Tryz.f90) Tryz.func90 U [.slice a m c,.int .u64 (n:Int),.int .i64 k] U (by kernel_rfl) ?_;refine Ag (A5 U U (Ab (Aa (Ag (Ap U U (Ae U U (Ae U U (Al U Ab8 (ZT a c m l n k _ R hml (by omega) hn) U ?_))))))));rintro v w2 F;obtain ⟨a9,n9,c9,f9,rfl,-⟩:=F.ex;refine A5 U U (Ab (Aa (A9 (AF (v:=(.slice _ _ _)) U U U ?_))));exact F
theorem KN {x:Int} (h0:0≤x) (h1:x<256):Ck (u64 x) 1=[by8 x]:=by
 have h:u64 x=(x % 256).toNat:=by unfold u64; omega
 rw [h];simp [Ck,by8]
theorem Yr (b:Bool):Ck (bif b then 1 else 0) 1=[bif b then 1 else 0]:=by cases b <;> rfl
theorem Qe (s:Nat):leB s 4=[UInt8.ofNat s,UInt8.ofNat (s / 2 ^ 8),UInt8.ofNat (s / 2 ^ 16),UInt8.ofNat (s / 2 ^ 24)]:=by simp [leB,List.range_succ]
/-- A bank's two edges. -/
theorem ZV {r:Rnd} (W:WR r) {k:Nat} (h:r.ids.length+2*k+1<r.es.length):∃ e1 e2 x1 x2,r.es[r.ids.length+2*k]? = some e1∧r.es[r.ids.length+2*k+1]? = some e2∧r.fl[r.ids.length+2*k]? = some x1∧r.fl[r.ids.length+2*k+1]? = some x2 ∧
  esB r (r.ids.length+2*(k+1))=esB r (r.ids.length+2*k)++Ck (u64 e1.cap) 8++Ck (u64 x1) 8++Ck (u64 x2) 8:=by
 have hl:=W.len;obtain ⟨e1,h1⟩:=AE (l:=r.es) (i:=r.ids.length+2*k) (by omega);obtain ⟨e2,h2⟩:=AE (l:=r.es) (i:=r.ids.length+2*k+1) h;obtain ⟨x1,h3⟩:=AE (l:=r.fl) (i:=r.ids.length+2*k) (by omega);obtain ⟨x2,h4⟩:=AE (l:=r.fl) (i:=r.ids.length+2*k+1) (by omega);refine ⟨e1,e2,x1,x2,h1,h2,h3,h4,?_⟩
 have hf1:e1.f=r.N - 1:=by
  rcases (Mj W (by omega) h1).2.2 with ⟨b,_,_,h,-⟩ | ⟨b,h5,-⟩
  ·exact h
  ·omega
 have hf2:e2.f≠r.N - 1:=by
  rcases (Mj W (by omega) h2).2.2 with ⟨b,h5,-⟩ | ⟨b,_,h6,h7,-⟩
  ·omega
  ·omega
 rw [show r.ids.length+2*(k+1)=r.ids.length+2*k+1+1 from by omega,KM h2 h4,KM h1 h3];have g1:eB r (r.ids.length+2*k) e1 x1=Ck (u64 e1.cap) 8++Ck (u64 x1) 8:=by unfold eB; rw [if_neg (by omega),if_pos hf1]
 have g2:eB r (r.ids.length+2*k+1) e2 x2=Ck (u64 x2) 8:=by unfold eB; rw [if_neg (by omega),if_neg hf2]
 rw [g1,g2];simp only [List.append_assoc]
/-- Behind the dues come a bank's pairs, to the end. -/
theorem Ys {r:Rnd} (W:WR r) {k:Nat} (h:r.ids.length+2*k≤r.es.length) (h2:¬ r.ids.length+2*k+1<r.es.length):r.ids.length+2*k=r.es.length:=by
 have hd:=W.de
 rcases Nat.lt_or_ge (r.ids.length+2*k) r.es.length with h3 | h3
 ·exfalso;obtain ⟨e,he⟩:=AE (l:=r.es) (i:=r.ids.length+2*k) h3;have:=(Mj W (by omega) he).2.1;omega
 ·omega
set_option maxRecDepth 20000 in
set_option maxHeartbeats 8000000 in
theorem U7 (r:Rnd) (q:RSl) (w:World) (RA:RAt w r q) (hEc:r.es.length≤q.cE) (hr:RBnd r) (hu:WU r):Ret Tryz.prog 34 #[.agg (A8 r q).toArray] w fun v w' =>
  (Bw r=true→∃ s,v = .tuple #[s,.int .i64 0]∧Fresh w w' 5 1 s ((Fa r).map bv))∧(Bw r=false→v = .tuple #[.slice none 0 0,.int .i64 1]∧Ext [] w w'):=by
 obtain ⟨w0,rfl⟩:∃ w0,w0=w:=⟨_,rfl⟩;have H:=Ctx.start w0 [];obtain ⟨wr,hwr⟩:∃ wr,wr=Bw r:=⟨_,rfl⟩;refine A2 (fn:=Tryz.f34) Tryz.func34 U [.agg (A8 r q).toArray] U (by kernel_rfl) ?_;refine Ag (Bt U (A8 r q) (.agg _) U U H ?_);rintro b1 w - H;refine A5 U U (Ad U U (Ab (Aa (Aq (Ag (Bh U Cq BW U H at0 U (Al U Oo (G9 r q _ (RA.ext0 H.ext) hEc hr) U ?_)))))));rintro v w ⟨rfl,hx14⟩;replace H:=H.call hx14;rw [← hwr];refine Bv U U (Ab (Aa (Ay _ U ?_ ?_)))
 ·intro h1;replace h1:=Bo h1;refine Ag (A5 U U (Ad U U (Ab (Aa (A9 (Am (DG (v1:=(.slice _ _ _)) (v2:=(.int _ _)) U U U U ?_)))))));have h1':Bw r=false:=by rw [← hwr]; simpa using h1
  exact ⟨fun h=>(by rw [h1] at h; cases h),fun _=>⟨rfl,H.ext⟩⟩
 ·intro h1;replace h1:=Bp h1;have h1':Bw r=true:=by rw [← hwr]; simpa using h1
  have WW:=HZ h1';have hN1:=WW.N1;have hN17:=WW.N17;have hd64:=WW.d64;have he200:=WW.e200;have hle:=WW.len;have hpo:=WW.pot;have hday:=WW.day;have hdy:=hu.day;have hde:=WW.de;have hb1:=H.get at0;have HG:=H;obtain ⟨w1,rfl⟩:∃ z,z=w:=⟨_,rfl⟩;clear H;have H:=Ctx.start w1 [];have RI:=RA.I.ext0 HG.ext;have RE:=RA.E.ext0 HG.ext;have RF:=RA.F.ext0 HG.ext;have RP:=RA.P.ext0 HG.ext;refine Ax (Aa (Ag (Ah U Dk U (AY U DS U ((by rw [Au (H.ext.to hb1 (by simp))]; rfl)) ?_))));refine AV U Bf U (Ad U U (Ab (Aa (Ag (Ah U C4 U (Ah U Dj U (AY U BG U ((by rw [Au (H.ext.to hb1 (by simp))]; rfl)) ?_)))))));refine Bg U U U (by omega) (by omega) ?_;refine Ad U U (Ab (Aa (Ag (Ad U U (Ab (Aa (Aq (Ag (Ah U FZ U (AY U Fx U ((by rw [Au (H.ext.to hb1 (by simp))]; rfl)) ?_))))))))));refine Ab (Aa (Eo 64 (α:=Unit) (fun _=>[(6,.int .u64 (((bif r.cmp then 1 else 0:Nat):Nat):Int))]) (fun _ w'=>w'=w1) U ?_ ?_))
  ·skip
   refine Ay _ U ?_ ?_
   ·intro h2;refine Aw (Ad U U (Ab (Aa ?_)));exact ⟨(),rfl,⟨by rw [h2]; rfl,trivial⟩,rfl⟩
   ·intro h2;refine Ax (Aa ?_);exact ⟨(),rfl,⟨by rw [h2]; rfl,trivial⟩,rfl⟩
  ·rintro - j6 w rfl;have H:=Ctx.start w [];have hbs:gwit.length=4:=rfl;have hkind:((bif r.cmp then 1 else 0:Nat):Nat)<18446744073709551616:=by cases r.cmp <;> decide
   refine CI [([2,3,5,6,7,9],0),([],1),([],4),([],8),([],10),([],11)] (fun z=>Ext [] w z) [] B0 (by kernel_rfl) (Ext.drew [] w) ?_;refine AL U U ?_;refine AJ U LV U (BM U BR U (fun _ hx=>(by rw [Au (hx.to hb1 (by simp))]; rfl)) ?_);refine AJ U K5 U (BM U Bx U (fun _ hx=>(by rw [Au (hx.to hb1 (by simp))]; rfl)) ?_);refine El U U GN Da (by omega) (by omega) ?_;refine AP U U (Bu ?_);replace H:=H.drew;refine CJ (gwit.map bv) U C6 FO IZ (by decide) (by decide) (by kernel_rfl) H ?_;rintro b25 w2 - H;refine Ab (BH (H.ext) (AL U U ?_));refine Bu (M9 (l:=gwit) U C6 Gj U H at0 ?_);rintro w2 H R26;refine Ab (BH (H.ext) (AL U U ?_));refine Bu (Al U GK (E5 (some ⟨b25,0,none⟩) 4 4 (gwit) (u64 (r.no)) 8 _ R26 U (by omega) (EC _)) (by rw [Fk hu.no.1 hu.no.2]; rfl) ?_);rintro v w2 F;rw [Jn] at F;obtain ⟨a29,c29,rfl,R29,-⟩:=Fresh.rdB F;have F29:=Fresh.since F H.ext;replace H:=H.call F.ext
   refine Ab (BH (H.ext) (AL U U ?_));refine Bu (Al U GK (E5 a29 c29 _ (gwit++Ck (u64 r.no) 8) (u64 (r.day)) 8 _ R29 U (by (simp only [List.length_append,CS,List.length_cons,List.length_nil,Di,List.length_take] at hbs ⊢; omega)) (EC _)) (by rw [Fk (by omega) (by omega)]; rfl) ?_);rintro v w2 F;rw [Jn] at F;obtain ⟨a33,c33,rfl,R33,-⟩:=Fresh.rdB F;have F33:=Fresh.since F H.ext;replace H:=H.call F.ext;refine Ab (BH (H.ext) (AL U U ?_));refine Bu (Al U GK (E5 a33 c33 _ (gwit++Ck (u64 r.no) 8++Ck (u64 r.day) 8) (bif r.cmp then 1 else 0) 1 _ R33 U (by (simp only [List.length_append,CS,List.length_cons,List.length_nil,Di,List.length_take] at hbs ⊢; omega)) hkind) U ?_);rintro v w2 F;rw [RU,Yr] at F;obtain ⟨a35,c35,rfl,R35,-⟩:=Fresh.rdB F;have F35:=Fresh.since F H.ext;replace H:=H.call F.ext;refine Ab (BH (H.ext) (AL U U ?_))
   refine Bu (A5 U U (Ab (BH (H.ext) (BS (Ag (Ap U U (Ae U U (Dh U U Fy Da (by omega) (by omega) ?_))))))));refine Al U GK (E5 a35 c35 _ (gwit++Ck (u64 r.no) 8++Ck (u64 r.day) 8++[bif r.cmp then 1 else 0]) (u64 (r.N - 1)) 1 _ R35 U (by (simp only [List.length_append,CS,List.length_cons,List.length_nil,Di,List.length_take] at hbs ⊢; omega)) (EC _)) (by rw [Fk (by omega) (by omega)]; rfl) ?_;rintro v w2 F;rw [RU,KN (by omega) (by omega)] at F;obtain ⟨a39,c39,rfl,R39,-⟩:=Fresh.rdB F;have F39:=Fresh.since F H.ext;replace H:=H.call F.ext;refine Ae U U (Dh U U Fy Da (by omega) (by omega) ?_);refine Al U GK (E5 a39 c39 _ (gwit++Ck (u64 r.no) 8++Ck (u64 r.day) 8++[bif r.cmp then 1 else 0]++[by8 (r.N - 1)]) (u64 (r.ids.length)) 1 _ R39 U (by (simp only [List.length_append,CS,List.length_cons,List.length_nil,Di,List.length_take] at hbs ⊢; omega)) (EC _)) (by rw [Fk (by omega) (by omega)]; rfl) ?_
   rintro v w2 F;rw [RU,KN (by omega) (by omega)] at F;obtain ⟨a42,c42,rfl,R42,-⟩:=Fresh.rdB F;have F42:=Fresh.since F H.ext;replace H:=H.call F.ext;refine A5 U U (Ab (Aa (Aq (Ag (Ad U U (Ab (Aa (Av ?_))))))));have hhd:gwit++Ck (u64 r.no) 8++Ck (u64 r.day) 8++[bif r.cmp then 1 else 0]++[by8 (r.N - 1)]++[by8 r.ids.length]=BJ r:=by unfold BJ; simp only [List.append_assoc,List.cons_append,List.nil_append]
   rw [hhd] at F42 R42 ⊢;clear hbs;refine Bd 154742504910663738269369216 (α:=Nat × Option Addr × Nat) (fun z=>[(8,.int .i64 (z.1:Int)),(7,.slice z.2.1 (BJ r++esB r z.1).length z.2.2)]) (fun z w'=>z.1≤r.ids.length∧Ctx w [] w' []∧Fresh w w' 5 1 (.slice z.2.1 (BJ r++esB r z.1).length z.2.2) ((BJ r++esB r z.1).map bv)) (fun z=>r.ids.length - z.1) (0,a42,c42) U ?_ ?_ ?_
   ·exact ⟨rfl,by rw [esB0,List.append_nil]; rfl,trivial⟩
   ·exact ⟨Nat.zero_le _,Ctx.sub H (fun x hx=>by cases hx) List.Pairwise.nil,by dsimp only; rw [esB0,List.append_nil]; exact F42⟩
   ·clear H F42 R42;rintro ⟨i,a7,c7⟩ j w2 ⟨hi,Hb,F7⟩; dsimp only at hi Hb F7; dsimp only; have H:=Ctx.start w2 [];refine Aq (Ag (Ae U U (Ae U U (AO U U U (Ab (Aa (Ay _ U ?_ ?_)))))))
    ·intro h2;replace h2:=AG h2;obtain ⟨e,he⟩:=AE (l:=r.es) (i:=i) (by omega);obtain ⟨x,hxx⟩:=AE (l:=r.fl) (i:=i) (by omega);obtain ⟨id,hid0⟩:=AE (l:=r.ids) (i:=i) (by omega);have hid:=hu.ids id (List.mem_of_getElem? hid0);have hwd:=PW (WW.due i e (by omega) he);have hfx:=RK WW hxx;have hst:=KM he hxx;have hbs:(BJ r++esB r i).length≤6000:=by have:=JD r i; rw [List.length_append,GC]; omega
     have hed:=CY ((Cb (BN WW.wi).2.1).2.2.2.1 e (List.mem_of_getElem? he));obtain ⟨a7',c7',hv7,R7,-⟩:=Fresh.rdB F7;obtain ⟨rfl,rfl⟩:a7=a7'∧c7=c7':=by simpa using hv7
     refine Ax (Aa (Aq (Av (Ag (Ah U C4 U (Ah U BD U (AY U C5 U ((by rw [Au ((Hb.ext.trans H.ext).to hb1 (by simp))]; rfl)) ?_)))))));refine Ae U U (AX RE U BO B3 U U (by omega) (by omega) (by rfl) ?_);refine Cd _ U DT B3 U U (((RE.ext0 (Hb.ext.trans H.ext)).row he U)) ?_;refine Bs U Dn H ?_;rintro b9 w - H;refine BL U B3 U U U (by exact CN _) H at0 U ?_;rintro w H;refine Ab (Aa ?_);have hb9:=H.get at0;have H9:=H;obtain ⟨w3,rfl⟩:∃ z,z=w:=⟨_,rfl⟩;clear H;have H:=Ctx.start w3 []
     have hfin:BJ r++esB r i++Ck (u64 id) 8++[by8 e.f]++[by8 e.t]++Ck (u64 e.cap) 8++Ck (u64 (-e.cost)) 2++Ck (u64 x) 8=BJ r++esB r (i+1):=by
      rw [hst];unfold eB;rw [if_pos (by omega),Bn hid0];simp only [List.append_assoc,List.cons_append,List.nil_append]
     refine CI [([0,1,2,3,4,5,7,8,9,11,12,13],6),([],10),([],14),([],15)] (fun z=>Ext [] w3 z) [] B0 (by kernel_rfl) (Ext.drew [] w3) ?_;refine AL U U ?_;refine Bq U U (AJ U Dk U (BM U DS U (fun _ hx=>(by rw [Au ((Hb.ext.trans (H9.ext.trans hx)).to hb1 (by simp))]; rfl)) ?_));refine AP U U (C3 RI U Bf Be U U (by omega) (by omega) (by rfl) ?_);refine BM U BR U (fun _ hx=>((RI.ext0 (Hb.ext.trans (H9.ext.trans hx))).fld hid0 rfl (j:=0) rfl)) ?_;refine AJ U CX U (BM U BG U (fun _ hx=>(by rw [Au (hx.to hb9 (by simp))]; rfl)) ?_);refine El U U Fy Da (by omega) (by omega) ?_;refine AJ U Dl U (BM U BG U (fun _ hx=>(by rw [Au (hx.to hb9 (by simp))]; rfl)) ?_);refine El U U Fy Da (by omega) (by omega) ?_;refine Bu ?_;replace H:=H.drew;refine Al U GK (E5 a7 c7 _ (BJ r++esB r i) (u64 (id)) 8 _ (R7.ext0 (H9.ext.trans H.ext)) U (by omega) (EC _)) (by rw [Fk hid.1 hid.2]; rfl) ?_;rintro v w2 F
     rw [Jn] at F;obtain ⟨a60,c60,rfl,R60,-⟩:=Fresh.rdB F;have F60:=Fresh.since F H.ext;replace H:=H.call F.ext;refine Ab (BH (H.ext) (AL U U ?_));refine Bu (Al U GK (E5 a60 c60 _ (BJ r++esB r i++Ck (u64 id) 8) (u64 (e.f)) 1 _ R60 U (by (simp only [List.length_append,CS,List.length_cons,List.length_nil,Di,List.length_take] at hbs ⊢; omega)) (EC _)) (by rw [Fk (by omega) (by omega)]; rfl) ?_);rintro v w2 F;rw [RU,KN (by omega) (by omega)] at F;obtain ⟨a64,c64,rfl,R64,-⟩:=Fresh.rdB F;have F64:=Fresh.since F H.ext;replace H:=H.call F.ext;refine Ab (BH (H.ext) (AL U U ?_));refine Bu (Al U GK (E5 a64 c64 _ (BJ r++esB r i++Ck (u64 id) 8++[by8 e.f]) (u64 (e.t)) 1 _ R64 U (by (simp only [List.length_append,CS,List.length_cons,List.length_nil,Di,List.length_take] at hbs ⊢; omega)) (EC _)) (by rw [Fk (by omega) (by omega)]; rfl) ?_);rintro v w2 F;rw [RU,KN (by omega) (by omega)] at F
     obtain ⟨a68,c68,rfl,R68,-⟩:=Fresh.rdB F;have F68:=Fresh.since F H.ext;replace H:=H.call F.ext;refine Ab (BH (H.ext) (AL U U ?_));refine Bu (A5 U U (Ab (BH (H.ext) (BS ?_))));have H9':=H;obtain ⟨w4,rfl⟩:∃ z,z=w2:=⟨_,rfl⟩;clear H;have H:=Ctx.start w4 [];refine EG [([0,1,2,3,5,6,7,8,10,11,12,13,14,15,16],4),([],9),([],17),([],18)] (fun z=>Ext [] w4 z) [] B0 (by kernel_rfl) (Ext.drew [] w4) ?_;refine AL U U ?_;refine Bq U U (AJ U CD U (BM U Bx U (fun _ hx=>(by rw [Au ((H9'.ext.trans hx).to hb9 (by simp))]; rfl)) ?_));refine El U U GN Da (by omega) (by omega) ?_;refine AJ U De U (BM U Bx U (fun _ hx=>(by rw [Au ((H9'.ext.trans hx).to hb9 (by simp))]; rfl)) ?_);refine Jz U U (by omega) (by omega) ?_;refine El U U GN Da (by omega) (by omega) ?_;refine AJ U CW U (AJ U DM U (BM U BC U (fun _ hx=>(by rw [Au ((Hb.ext.trans (H9.ext.trans (H9'.ext.trans hx))).to hb1 (by simp))]; rfl)) ?_))
     refine AP U U (C3 RF U AU Bz U U (by omega) (by omega) (by rfl) ?_);refine BM U Bx U (fun _ hx=>((RF.ext0 (Hb.ext.trans (H9.ext.trans (H9'.ext.trans hx)))).fld hxx rfl (j:=0) rfl)) ?_;refine El U U GN Da (by omega) (by omega) ?_;refine Bu ?_;replace H:=H.drew;refine Al U GK (E5 a68 c68 _ (BJ r++esB r i++Ck (u64 id) 8++[by8 e.f]++[by8 e.t]) (u64 (e.cap)) 8 _ (R68.ext0 H.ext) U (by (simp only [List.length_append,CS,List.length_cons,List.length_nil,Di,List.length_take] at hbs ⊢; omega)) (EC _)) (by rw [Fk (by omega) (by omega)]; rfl) ?_;rintro v w2 F;rw [Jn] at F;obtain ⟨a73,c73,rfl,R73,-⟩:=Fresh.rdB F;have F73:=Fresh.since F H.ext;replace H:=H.call F.ext;refine Ab (BH (H.ext) (AL U U ?_))
     refine Bu (Al U GK (E5 a73 c73 _ (BJ r++esB r i++Ck (u64 id) 8++[by8 e.f]++[by8 e.t]++Ck (u64 e.cap) 8) (u64 (-e.cost)) 2 _ R73 U (by (simp only [List.length_append,CS,List.length_cons,List.length_nil,Di,List.length_take] at hbs ⊢; omega)) (EC _)) (by rw [Fk (by omega) (by omega)]; rfl) ?_);rintro v w2 F;rw [putB2] at F;obtain ⟨a78,c78,rfl,R78,-⟩:=Fresh.rdB F;have F78:=Fresh.since F H.ext;replace H:=H.call F.ext;refine Ab (BH (H.ext) (AL U U ?_));refine Bu (Al U GK (E5 a78 c78 _ (BJ r++esB r i++Ck (u64 id) 8++[by8 e.f]++[by8 e.t]++Ck (u64 e.cap) 8++Ck (u64 (-e.cost)) 2) (u64 (x)) 8 _ R78 U (by (simp only [List.length_append,CS,List.length_cons,List.length_nil,Di,List.length_take] at hbs ⊢; omega)) (EC _)) (by rw [Fk (by omega) (by omega)]; rfl) ?_);rintro v w2 F;rw [Jn] at F;obtain ⟨a86,c86,rfl,R86,-⟩:=Fresh.rdB F;have F86:=Fresh.since F H.ext;replace H:=H.call F.ext
     rw [hfin] at F86 ⊢;refine Ab (BH (H.ext) (AL U U ?_));refine Bu (A5 U U (Ab (BH (H.ext) (BS (A3 (Aa (Aw (Ae U U (Ao U U U (by omega) (by omega) ?_)))))))));refine Ad U U (Ab (Aa ?_));exact ⟨(i+1,a86,c86),rfl,⟨rfl,rfl,trivial⟩,⟨by omega,Hb.call (H9.ext.trans (H9'.ext.trans H.ext)),Fresh.since F86 (Hb.ext.trans (H9.ext.trans H9'.ext))⟩,by dsimp only; omega⟩
    ·intro h2;replace h2:=AH h2;obtain rfl:i=r.ids.length:=by omega
     replace H:=Hb;refine Bc (Aj (Aj (AD (Aa (Aq (Ag (Ae U U (Ad U U (Ab (Aa (Av (Bd 21267647932249168956639567895760733312 (α:=Nat × Option Addr × Nat) (fun z=>[(10,.int .i64 ((r.ids.length+2*z.1:Nat):Int)),(7,.slice z.2.1 (BJ r++esB r (r.ids.length+2*z.1)).length z.2.2)]) (fun z w'=>r.ids.length+2*z.1≤r.es.length∧Ctx w [] w' []∧Fresh w w' 5 1 (.slice z.2.1 (BJ r++esB r (r.ids.length+2*z.1)).length z.2.2) ((BJ r++esB r (r.ids.length+2*z.1)).map bv)) (fun z=>r.es.length - (r.ids.length+2*z.1)) (0,a7,c7) U ?_ ?_ ?_))))))))))))
     ·exact ⟨rfl,rfl,trivial⟩
     ·exact ⟨hde,H,F7⟩
     ·clear H F7;rintro ⟨k,a7,c7⟩ j2 w2 ⟨hk,H,F7⟩; dsimp only at hk H F7; dsimp only;refine Aq (Ag (Ae U U (Ao U U U (by omega) (by omega) ?_)));refine Ah U C4 U (Ah U BD U (AY U C5 U ((by rw [Au (H.ext.to hb1 (by simp))]; rfl)) ?_));refine AV U BO U (AO U U U (Ab (Aa (Ay _ U ?_ ?_))))
      ·intro h3;replace h3:=AG h3;obtain ⟨e,e2,x,x2,he,he2,hxx,hxx2,hst⟩:=ZV WW (k:=k) (by omega);have hfx:=RK WW hxx;have hfx2:=RK WW hxx2;have hbs:(BJ r++esB r (r.ids.length+2*k)).length≤6000:=by have:=JD r (r.ids.length+2*k); rw [List.length_append,GC]; omega
       have hed:=CY ((Cb (BN WW.wi).2.1).2.2.2.1 e (List.mem_of_getElem? he));obtain ⟨a7',c7',hv7,R7,-⟩:=Fresh.rdB F7;obtain ⟨rfl,rfl⟩:a7=a7'∧c7=c7':=by simpa using hv7
       have hfin:BJ r++esB r (r.ids.length+2*k)++Ck (u64 e.cap) 8++Ck (u64 x) 8++Ck (u64 x2) 8=BJ r++esB r (r.ids.length+2*(k+1)):=by
        rw [hst];simp only [List.append_assoc]
       refine Ax (Aa (Aq (Av ?_)));have H9:=H;obtain ⟨w3,rfl⟩:∃ z,z=w2:=⟨_,rfl⟩;clear H;have H:=Ctx.start w3 [];refine EG [([0,1,2,3,4,5,6,7,8,10,11,12,13,14,15,16,18,19,20,21,22,23,24,25],9),([],17),([],26),([],27)] (fun z=>Ext [] w3 z) [] B0 (by kernel_rfl) (Ext.drew [] w3) ?_;refine AL U U ?_;refine Bq U U (AJ U C4 U (AJ U BD U (BM U C5 U (fun _ hx=>(by rw [Au ((H9.ext.trans hx).to hb1 (by simp))]; rfl)) ?_)));refine AP U U (C3 RE U BO B3 U U (by omega) (by omega) (by rfl) ?_);refine AJ U CD U (BM U Bx U (fun _ hx=>((RE.ext0 (H9.ext.trans hx)).fld he rfl (j:=2) rfl)) ?_);refine El U U GN Da (by omega) (by omega) ?_;refine AJ U CW U (AJ U DM U (BM U BC U (fun _ hx=>(by rw [Au ((H9.ext.trans hx).to hb1 (by simp))]; rfl)) ?_));refine AP U U (C3 RF U AU Bz U U (by omega) (by omega) (by rfl) ?_);refine BM U Bx U (fun _ hx=>((RF.ext0 (H9.ext.trans hx)).fld hxx rfl (j:=0) rfl)) ?_
       refine El U U GN Da (by omega) (by omega) ?_;refine AJ U CW U (AJ U DM U (BM U BC U (fun _ hx=>(by rw [Au ((H9.ext.trans hx).to hb1 (by simp))]; rfl)) ?_));refine AP U U (Ee U U U (by omega) (by omega) ?_);refine C3 RF U AU Bz U U (by omega) (by omega) (by rfl) ?_;refine BM U Bx U (fun _ hx=>((RF.ext0 (H9.ext.trans hx)).fld hxx2 rfl (j:=0) rfl)) ?_;refine El U U GN Da (by omega) (by omega) ?_;refine Bu ?_;replace H:=H.drew;refine Al U GK (E5 a7 c7 _ (BJ r++esB r (r.ids.length+2*k)) (u64 (e.cap)) 8 _ (R7.ext0 H.ext) U (by omega) (EC _)) (by rw [Fk (by omega) (by omega)]; rfl) ?_;rintro v w2 F;rw [Jn] at F;obtain ⟨a106,c106,rfl,R106,-⟩:=Fresh.rdB F;have F106:=Fresh.since F H.ext;replace H:=H.call F.ext;refine Ab (BH (H.ext) (AL U U ?_))
       refine Bu (Al U GK (E5 a106 c106 _ (BJ r++esB r (r.ids.length+2*k)++Ck (u64 e.cap) 8) (u64 (x)) 8 _ R106 U (by (simp only [List.length_append,CS,List.length_cons,List.length_nil,Di,List.length_take] at hbs ⊢; omega)) (EC _)) (by rw [Fk (by omega) (by omega)]; rfl) ?_);rintro v w2 F;rw [Jn] at F;obtain ⟨a114,c114,rfl,R114,-⟩:=Fresh.rdB F;have F114:=Fresh.since F H.ext;replace H:=H.call F.ext;refine Ab (BH (H.ext) (AL U U ?_));refine Bu (Al U GK (E5 a114 c114 _ (BJ r++esB r (r.ids.length+2*k)++Ck (u64 e.cap) 8++Ck (u64 x) 8) (u64 (x2)) 8 _ R114 U (by (simp only [List.length_append,CS,List.length_cons,List.length_nil,Di,List.length_take] at hbs ⊢; omega)) (EC _)) (by rw [Fk (by omega) (by omega)]; rfl) ?_);rintro v w2 F;rw [Jn] at F;obtain ⟨a123,c123,rfl,R123,-⟩:=Fresh.rdB F;have F123:=Fresh.since F H.ext;replace H:=H.call F.ext;rw [hfin] at F123 ⊢;refine Ab (BH (H.ext) (AL U U ?_))
       refine Bu (A5 U U (Ab (BH (H.ext) (BS (A3 (Aa (Aw (Ae U U (Ao U U U (by omega) (by omega) ?_)))))))));refine Ad U U (Ab (Aa ?_));exact ⟨(k+1,a123,c123),rfl,⟨congrArg (Value.int .i64) (by omega),rfl,trivial⟩,⟨by omega,H9.call H.ext,Fresh.since F123 H9.ext⟩,by dsimp only; omega⟩
      ·intro h3;replace h3:=AH h3;have hend:=Ys WW hk (by omega);rw [hend] at F7 ⊢;refine Bc (Aj (Aj (AD (Aa (Aq (Ag (Ad U U (Ab (Aa (Av (Bd 2787571882168395334037998323168080702736512 (α:=Nat × Option Addr × Nat) (fun z=>[(11,.int .i64 (z.1:Int)),(7,.slice z.2.1 (BJ r++esB r r.es.length++DX (r.pot.take z.1)).length z.2.2)]) (fun z w'=>z.1≤r.pot.length∧Ctx w [] w' []∧Fresh w w' 5 1 (.slice z.2.1 (BJ r++esB r r.es.length++DX (r.pot.take z.1)).length z.2.2) ((BJ r++esB r r.es.length++DX (r.pot.take z.1)).map bv)) (fun z=>r.pot.length - z.1) (0,a7,c7) U ?_ ?_ ?_)))))))))))
       ·exact ⟨rfl,by dsimp only; rw [List.take_zero,N3,List.append_nil]; rfl,trivial⟩
       ·exact ⟨Nat.zero_le _,H,by dsimp only; rw [List.take_zero,N3,List.append_nil]; exact F7⟩
       ·clear H F7;rintro ⟨k3,a7,c7⟩ j3 w2 ⟨hk3,H,F7⟩; dsimp only at hk3 H F7; dsimp only;have hbs:(BJ r++esB r r.es.length++DX (r.pot.take k3)).length≤6000:=by have:=JD r r.es.length; rw [List.length_append,List.length_append,GC,Di,List.length_take]; omega
        refine Aq (Ag (Ae U U (Ah U CW U (Ah U EU U (AY U BC U ((by rw [Au (H.ext.to hb1 (by simp))]; rfl)) ?_)))));refine AV U AU U (AO U U U (Ab (Aa (Ay _ U ?_ ?_))))
        ·intro h4;replace h4:=AG h4;obtain ⟨x,hx⟩:=AE (l:=r.pot) (i:=k3) (by omega);obtain ⟨a7',c7',hv7,R7,-⟩:=Fresh.rdB F7;obtain ⟨rfl,rfl⟩:a7=a7'∧c7=c7':=by simpa using hv7
         refine Ax (Aa (Aq (Av (Aw (Ap U U (Ah U CW U (Ah U EU U (AY U BC U ((by rw [Au (H.ext.to hb1 (by simp))]; rfl)) ?_))))))));refine Ae U U (AX RP U AU Bz U U (by omega) (by omega) (by rfl) ?_);refine AY U Bx U (((RP.ext0 H.ext).fld hx U (j:=0) U)) ?_;refine DR U U GN Da ?_;rw [N2];refine Al U GK (E5 a7 c7 _ (BJ r++esB r r.es.length++DX (r.pot.take k3)) (u64 (x)) 8 _ R7 U (by omega) (EC _)) U ?_;rintro v w2 F;rw [Jn] at F;obtain ⟨a140,c140,rfl,R140,-⟩:=Fresh.rdB F;have F140:=Fresh.since F H.ext;replace H:=H.call F.ext;have hfin:BJ r++esB r r.es.length++DX (r.pot.take k3)++Ck (u64 x) 8=BJ r++esB r r.es.length++DX (r.pot.take (k3+1)):=by { rw [List.append_assoc _ _ (Ck (u64 x) 8),← Pd hx] }
         rw [hfin] at F140 ⊢;refine A5 U U (Ab (A3 (Aa (Aw (Ae U U (Ao U U U (by omega) (by omega) ?_))))));refine Ad U U (Ab (Aa ?_));exact ⟨(k3+1,a140,c140),rfl,⟨rfl,rfl,trivial⟩,⟨by omega,H,F140⟩,by dsimp only; omega⟩
        ·intro h4;replace h4:=AH h4;obtain rfl:k3=r.pot.length:=by omega
         rw [List.take_length,show BJ r++esB r r.es.length++DX r.pot=Fw r from rfl] at F7 hbs;rw [List.take_length,show BJ r++esB r r.es.length++DX r.pot=Fw r from rfl];obtain ⟨a,n,c,full,hv7,O,hb4⟩:=F7.ex;obtain ⟨rfl,rfl,rfl⟩:a7=a∧(Fw r).length=n∧c7=c:=by simpa using hv7
         have H':Ctx w [] w2 (ent a7 5 full):=⟨F7.ext,fun x hx=>(hb4 x hx).1,Lc,fun x hx => .inr (hb4 x hx).2⟩;clear H;have H:=H';refine Bc (Aj (Aj (AD (Aa (Ag (Ap U U (Al U ca_91 (ZS a7 c7 _ (Fw r) _ (OS.rdB O fun x hx=>H.blk x hx) U (by omega)) U ?_)))))));rintro v w3 ⟨rfl,rfl⟩;obtain ⟨s,hs⟩:∃ s,s=(PY (Fw r)).toNat:=⟨_,rfl⟩;have hs32:s<4294967296:=by { rw [hs]; exact Gc _ }
         rw [← hs];refine Ad U U (Ab (Aa (Ag (Ap U U (Ae U U (EK U U L5 Gj ?_))))));rw [Fv];refine Ae U U (GH (n:=8) U U U (by omega) ?_);refine EK U U L5 Gj ?_;rw [Fv];refine Ae U U (GH (n:=16) U U U (by omega) ?_);refine EK U U L5 Gj ?_;rw [Fv];refine Ae U U (GH (n:=24) U U U (by omega) ?_);refine EK U U L5 Gj ?_;rw [Fv];refine CJ ((leB s 4).map bv) U C6 FO IZ (by decide) (by decide) (by rw [Qe]; kernel_rfl) H ?_;rintro b155 w4 - H;refine Dr (L:=[]) U C6 C6 FO P0 IZ U (by decide) U U H O (by simp [U6]) (one3 _) (by omega) ?_;rintro a9 c9 f9 w H O;refine A5 U U (Ad U U (Ab (Aa (A9 (DG (v1:=(.slice _ _ _)) (v2:=(.int _ _)) U U U U ?_)))));refine ⟨fun _=>⟨_,rfl,?_⟩,fun h=>(by rw [h1] at h; cases h)⟩;have hB:Fa r=Fw r++leB s 4:=by unfold Fa; rw [hs]
         rw [hB,List.map_append];exact Fresh.since (Ctx.fresh (L:=[]) H O) HG.ext
end Go.Proofs.YtapphbmlkdhnmaaGreat

/- What takes numbers off bytes, one behind the other: the program's two functions, and the reference's reader. -/
namespace Go.Proofs.YtapphbmlkdhnmaaGreat
open Go.GV
attribute [local irreducible] AC W Wq Wt

/-- A number of k bytes, and what stands behind it; once one is missing, nothing more is read. -/
def nx (l:List UInt8) (k:Nat) (s:Nat × Bool):Nat × (Nat × Bool) :=
 if s.2=true then (0,s) else if s.1+k≤l.length then (numN ((l.drop s.1).take k),(s.1+k,false)) else (0,(s.1,true))
theorem Yt {l:List UInt8} {k p:Nat} (h:p+k≤l.length):nx l k (p,false)=(numN ((l.drop p).take k),(p+k,false)):=by
 unfold nx;rw [if_neg Bool.false_ne_true,if_pos h]
theorem Yu {l:List UInt8} {k p:Nat} (h:¬ p+k≤l.length):nx l k (p,false)=(0,(p,true)):=by
 unfold nx;rw [if_neg Bool.false_ne_true,if_neg h]
theorem EF {l:List UInt8} {k:Nat} {s:Nat × Bool} (h:s.1≤l.length):(nx l k s).2.1≤l.length:=by
 unfold nx
 split
 ·exact h
 ·split
  ·assumption
  ·exact h
theorem Yv (l:List UInt8) {k:Nat} (hk:k≤8) (s:Nat × Bool):(nx l k s).1<18446744073709551616:=by
 unfold nx
 split
 ·show (0:Nat)<_;decide
 ·split
  ·have h1:=JC ((l.drop s.1).take k);have h2:((l.drop s.1).take k).length≤8:=by rw [List.length_take]; omega
   have h3:256 ^ ((l.drop s.1).take k).length≤256 ^ 8:=Nat.pow_le_pow_right (by decide) h2;show numN _<_;have h4:(256:Nat) ^ 8=18446744073709551616:=by decide
   omega
  ·show (0:Nat)<_;decide
abbrev KO (k:Nat):Prop:=k=1∨k=2∨k=4∨k=8
theorem KP {l:List UInt8} {p k:Nat} (hk:KO k) (h:p+k≤l.length):ID l (p:Int) (k:Int) = .tuple #[.int .u64 (numN ((l.drop p).take k):Int),.int .i64 ((p:Int)+(k:Int)),.int .i64 0]:=by
 have hs:FN (k:Int)=true:=by rcases hk with rfl | rfl | rfl | rfl <;> rfl
 have he:Hr l (p:Int) (k:Int)=0:=by
  unfold Hr;rw [hs,decide_eq_true (show (0:Int)≤(p:Int) by omega),decide_eq_true (show (p:Int)≤(l.length:Int) by omega),decide_eq_true (show (k:Int)≤(l.length:Int) - (p:Int) by omega)];rfl
 unfold ID;rw [he];rfl
theorem KQ {l:List UInt8} {p k:Nat} (hk:KO k) (hp:p≤l.length) (h:¬ p+k≤l.length):ID l (p:Int) (k:Int) = .tuple #[.int .u64 0,.int .i64 0,.int .i64 5]:=by
 have hs:FN (k:Int)=true:=by rcases hk with rfl | rfl | rfl | rfl <;> rfl
 have he:Hr l (p:Int) (k:Int)=5:=by
  unfold Hr;rw [hs,decide_eq_true (show (0:Int)≤(p:Int) by omega),decide_eq_true (show (p:Int)≤(l.length:Int) by omega),decide_eq_false (show ¬ (k:Int)≤(l.length:Int) - (p:Int) by omega)];rfl
 unfold ID;rw [he];rfl
/-- What a take answers, whatever it is. -/
theorem RW {l:List UInt8} {p k:Nat} (hk:KO k) (hp:p≤l.length):∃ (n:Nat) (o e:Int),ID l (p:Int) (k:Int) = .tuple #[.int .u64 (n:Int),.int .i64 o,.int .i64 e]:=by
 by_cases h:p+k≤l.length
 ·exact ⟨_,_,_,KP hk h⟩
 ·exact ⟨0,0,5,KQ hk hp h⟩
/-- Where the bytes lie, and that they stay. -/
structure TkB (w:World) (S:List Nat) (a:Option Addr) (c:Nat) (l:List UInt8):Prop where
 R:Rd w a 1 B8 l
 off:l≠[]→(adr a).block∉S
 hc:l.length≤c
 hm:l.length≤100000
theorem TkB.at {w w':World} {S:List Nat} {a:Option Addr} {c:Nat} {l:List UInt8} (B:TkB w S a c l) (h:Ext S w w'):Rd w' a 1 B8 l:=by
 by_cases hl:l=[]
 ·subst hl; exact Rd.nil
 ·exact B.R.ext h (B.off hl)
theorem TkB.ext {w w':World} {S:List Nat} {a:Option Addr} {c:Nat} {l:List UInt8} (B:TkB w S a c l) (h:Ext S w w'):TkB w' S a c l:=⟨B.at h,B.off,B.hc,B.hm⟩
abbrev tkL (ba bd:Nat) (s:Nat × Bool):List (Nat × Obj):=[(ba,Bl 3 [.int .i64 (s.1:Int)]),(bd,Bl 4 [.bool s.2])]
set_option maxHeartbeats 1000000 in
theorem Yw (bb ba bd:Nat) (a:Option Addr) (c:Nat) (l:List UInt8) (s:Nat × Bool) (k:Nat) (w:World) (B:TkB w [ba,bd] a c l) (hb:w.heap[bb]? = some (Bl 69 [.slice a l.length c])) (nb:bb∉[ba,bd]) (H:Ctx w [ba,bd] w (tkL ba bd s)) (hs:s.1≤l.length) (hk:KO k) :
  Ret Tryz.prog 144 #[.int .i64 (k:Int),ptr bb,ptr ba,ptr bd] w fun v w'=>v = .int .u64 ((nx l k s).1:Int)∧Ctx w [ba,bd] w' (tkL ba bd (nx l k s).2):=by
 obtain ⟨w0,rfl⟩:∃ w0,w0=w:=⟨_,rfl⟩;obtain ⟨p,bad⟩:=s;dsimp only at hs;have hm:=B.hm
 cases bad with
 | true =>
  obtain ⟨n,o,e,hT⟩:=RW (k:=k) hk hs;refine A2 (fn:=Tryz.f144) Tryz.func144 U [.int .i64 (k:Int),ptr bb,ptr ba,ptr bd] U (by kernel_rfl) ?_;refine Ag (Ad U U (Ab (Aa (Ag (AY U Om U ((by rw [Au (H.ext.to hb nb)]; rfl)) ?_)))));refine AA U BG U H at0 U (Ae U U (Al U SB (N0 a c _ l (p:Int) (k:Int) _ (B.at H.ext) U (by omega) B.hc) U ?_));rintro v w ⟨rfl,hx13⟩;replace H:=H.call hx13;rw [hT];refine BK U U (A6 U U U (A6 U U U (A6 U U U (Ad U U (Ad U U (Ad U U (Ab (Aa (Aq (Ag ?_))))))))));refine AA U Fx U H at1 U (Ak U U (Af U (Af U (An U U (.bool _) U (BX (.bool _) U LG U U U H at1 (by (simp; done)) ?_)))));rintro w H;refine Ab (Aa (Ag (AA U Fx U H at1 U (Ab (Aa (Dc U (Ag (Ad U U (Ab (Aa (A9 (Am (AF (v:=(.int _ _)) U U U ?_)))))))))))));exact ⟨rfl,H⟩
 | false =>
  by_cases hf:p+k≤l.length
  ·have hT:=KP hk hf;rw [Yt hf];refine A2 (fn:=Tryz.f144) Tryz.func144 U [.int .i64 (k:Int),ptr bb,ptr ba,ptr bd] U (by kernel_rfl) ?_;refine Ag (Ad U U (Ab (Aa (Ag (AY U Om U ((by rw [Au (H.ext.to hb nb)]; rfl)) ?_)))));refine AA U BG U H at0 U (Ae U U (Al U SB (N0 a c _ l (p:Int) (k:Int) _ (B.at H.ext) U (by omega) B.hc) U ?_));rintro v w ⟨rfl,hx13⟩;replace H:=H.call hx13;rw [hT];refine BK U U (A6 U U U (A6 U U U (A6 U U U (Ad U U (Ad U U (Ad U U (Ab (Aa (Aq (Ag ?_))))))))));refine AA U Fx U H at1 U (Ak U U (Ae U U (CC U U U (A1 U U (.bool _) U (BX (.bool _) U LG U U U H at1 (by (simp; done)) ?_)))));rintro w H;refine Ab (Aa (Ag (AA U Fx U H at1 U (Ab (Aa (Ay _ U ?_ ?_))))))
   ·intro h1;exact absurd h1 (by decide)
   ·intro h1;refine Ax (Aa (Ag (Ae U U (BX (.int _ _) U EV U U U H at0 (by (simp; done)) ?_))));rintro w H;refine Ab (Aa (Ag (Ae U U (Ad U U (Ab (Aa (A9 (AF (v:=(.int _ _)) U U U ?_))))))));exact ⟨rfl,H⟩
  ·have hT:=KQ hk hs hf;rw [Yu hf];refine A2 (fn:=Tryz.f144) Tryz.func144 U [.int .i64 (k:Int),ptr bb,ptr ba,ptr bd] U (by kernel_rfl) ?_;refine Ag (Ad U U (Ab (Aa (Ag (AY U Om U ((by rw [Au (H.ext.to hb nb)]; rfl)) ?_)))));refine AA U BG U H at0 U (Ae U U (Al U SB (N0 a c _ l (p:Int) (k:Int) _ (B.at H.ext) U (by omega) B.hc) U ?_));rintro v w ⟨rfl,hx13⟩;replace H:=H.call hx13;rw [hT];refine BK U U (A6 U U U (A6 U U U (A6 U U U (Ad U U (Ad U U (Ad U U (Ab (Aa (Aq (Ag ?_))))))))));refine AA U Fx U H at1 U (Ak U U (Ae U U (CC U U U (A1 U U (.bool _) U (BX (.bool _) U LG U U U H at1 (by (simp; done)) ?_)))));rintro w H;refine Ab (Aa (Ag (AA U Fx U H at1 U (Ab (Aa (Ay _ U ?_ ?_))))))
   ·intro h1;refine Ag (Ad U U (Ab (Aa (A9 (Am (AF (v:=(.int _ _)) U U U ?_))))));exact ⟨rfl,H⟩
   ·intro h1;exact absurd h1 (by decide)
theorem Qf (bd:Nat) (bad:Bool) (w:World) (hb:w.heap[bd]? = some (Bl 4 [.bool bad])):Ret Tryz.prog 146 #[ptr bd] w fun v w'=>v = .bool (!bad)∧Ext [] w w':=by
 obtain ⟨w0,rfl⟩:∃ w0,w0=w:=⟨_,rfl⟩;have H:=Ctx.start w0 [];refine A2 (fn:=Tryz.f146) Tryz.func146 U [ptr bd] U (by kernel_rfl) ?_;refine Ag (Ai U U (Ab (Aa (Ag (AY U Fx U ((by rw [Au (H.ext.to hb (by simp))]; rfl)) ?_)))));refine Bv U U (Ai U U (Ab (Aa (A9 (AF (v:=(.bool _)) U U U ?_)))));exact ⟨rfl,H.ext⟩
/-- The same number with a sign. -/
def s64 (n:Nat):Int:=IntKind.i64.wrap (n:Int)
abbrev G1 (bb ba bd:Nat):Value := .func (.func 144) #[] [ptr bb,ptr ba,ptr bd].toArray
theorem Aeq (b4 bb ba bd:Nat) (a:Option Addr) (c:Nat) (l:List UInt8) (s:Nat × Bool) (w:World) (B:TkB w [ba,bd] a c l) (hb:w.heap[bb]? = some (Bl 69 [.slice a l.length c])) (nb:bb∉[ba,bd]) (H:Ctx w [ba,bd] w (tkL ba bd s)) (hs:s.1≤l.length)
  (h4:w.heap[b4]? = some (Bl 136 [G1 bb ba bd])):Ret Tryz.prog 80 #[ptr b4] w fun v w'=>v = .int .i64 (s64 (nx l 8 s).1)∧Ctx w [ba,bd] w' (tkL ba bd (nx l 8 s).2):=by
 obtain ⟨w0,rfl⟩:∃ w0,w0=w:=⟨_,rfl⟩;refine A2 (fn:=Tryz.f80) Tryz.func80 U [ptr b4] U (by kernel_rfl) ?_;refine Ag (Ad U U (Ab (Aa (Ag (AY U Ht U ((by rw [Au h4]; rfl)) ?_)))));refine C0 U U Hv (Yw bb ba bd a c l s 8 _ B hb nb H hs (.inr (.inr (.inr U)))) U ?_;rintro v w ⟨rfl,H⟩;refine DR U U Da GN ?_;refine Ad U U (Ab (Aa (A9 (AF (v:=(.int _ _)) U U U ?_))));exact ⟨rfl,H⟩

/-! ### The reference's -/
set_option maxHeartbeats 1000000 in
theorem N5 (a:Option Addr) (c m:Nat) (l:List UInt8) (p k:Nat) (w:World) (R:Rd w a 1 B8 l) (hml:l.length=m) (hm:m≤1000000) (hp:p≤m) (hk:KO k) :
  Ret Tryz.prog 152 #[.slice a m c,.int .i64 (p:Int),.int .i64 (k:Int)] w fun v w'=>v=ID l (p:Int) (k:Int)∧Ext [] w w':=by
 subst hml;obtain ⟨w0,rfl⟩:∃ w0,w0=w:=⟨_,rfl⟩;have H:=Ctx.start w0 []
 have hsz:FN (k:Int)=true:=by rcases hk with rfl | rfl | rfl | rfl <;> rfl
 have hk8:k≤8:=by rcases hk with rfl | rfl | rfl | rfl <;> decide
 refine A2 (fn:=Tryz.f152) Tryz.func152 U [.slice a l.length c,.int .i64 (p:Int),.int .i64 (k:Int)] U (by kernel_rfl) ?_;refine Ag (Ad U U (Ad U U (Ad U U (Ab (Aa (Aq (Ag (B5 (α:=Unit) 16775168 (fun _=>[(23,.bool (false))]) (fun _ w'=>Ctx w0 [] w' []) U ?_ ?_))))))))
 ·refine Ae U U (Al U W8 (U5 k _) U ?_);rintro v w ⟨rfl,rfl⟩;rw [hsz];refine Bv U U (Ak U U (A4 14 U ?_ ?_))
  ·intro h1;replace h1:=Bo h1;refine Af U (Af U (An U U (.bool _) U (Ak U U (Af U (Af U (Af U (Af U (An U U (.bool _) U (Ab ?_)))))))));exact ⟨rfl,(),rfl,⟨congrArg Value.bool (by cases h1),trivial⟩,H⟩
  ·intro h2;replace h2:=Bp h2;refine Ae U U (AO U U U (A1 U U (.bool _) U (Ak U U (A4 18 U ?_ ?_))))
   ·intro h3;replace h3:=AG h3;refine Af U (Af U (Af U (Af U (An U U (.bool _) U (Ab ?_)))));exact ⟨rfl,(),rfl,⟨congrArg Value.bool (by (simp; omega)),trivial⟩,H⟩
   ·intro h4;replace h4:=AH h4;refine Ae U U (Ap U U (AV U C6 U (Ct U U U (A1 U U (.bool _) U (Ab ?_)))));exact ⟨rfl,(),rfl,⟨congrArg Value.bool (by (simp; omega)),trivial⟩,H⟩
 rintro - j23 w H;refine EQ U (Ax (Aa (Aq (Ag (Ae U U (Ap U U (AV U C6 U (Ae U U (Bg U U U (by omega) (by omega) ?_)))))))));refine Ct U U U (Ab (Aa (Ay _ U ?_ ?_)))
 ·intro h1;replace h1:=AG h1;have hT:=KQ hk hp (by omega);rw [hT];refine Ag (Ad U U (Ad U U (Ad U U (Ab (Aa (A9 (Am (CZ (v1:=(.int _ _)) (v2:=(.int _ _)) (v3:=(.int _ _)) U U U U U ?_))))))));exact ⟨rfl,H.ext⟩
 ·intro h1;replace h1:=AH h1;have hT:=KP hk (show p+k≤l.length by omega);rw [hT];have hl:((l.drop p).take k).length=k:=by rw [List.length_take,List.length_drop]; omega
  refine Ax (Aa (Ag (Ad U U (Ab (Aa (Aq (Ag (Ad U U (Ab (Aa (Av (Bd 35183298348544 (α:=Nat) (fun i=>[(10,.int .i64 (i:Int)),(9,.int .u64 (numN (((l.drop p).take k).take i):Int))]) (fun i w'=>i≤k∧Ctx w0 [] w' []) (fun i=>k - i) 0 U ?_ ?_ ?_))))))))))))
  ·exact ⟨rfl,rfl,trivial⟩
  ·exact ⟨Nat.zero_le _,H⟩
  ·clear H;rintro i j w ⟨hi,H⟩;refine Aq (Ag (Ae U U (Ae U U (AO U U U (Ab (Aa (Ay _ U ?_ ?_)))))))
   ·intro h5;replace h5:=AG h5;obtain ⟨x,hx⟩:=AE (l:=(l.drop p).take k) (i:=i) (by omega);have hx2:l[p+i]? = some x:=by rw [List.getElem?_take,if_pos (by omega),List.getElem?_drop] at hx; exact hx
    have hxb:=Gb x;have hst:numN (((l.drop p).take k).take (i+1))=numN (((l.drop p).take k).take i)*256+x.toNat:=by rw [List.take_add_one,hx]; exact Pc _ _
    have hlt:=JC (((l.drop p).take k).take (i+1));have hl2:(((l.drop p).take k).take (i+1)).length≤8:=by rw [List.length_take]; omega
    have h3:256 ^ (((l.drop p).take k).take (i+1)).length≤256 ^ 8:=Nat.pow_le_pow_right (by decide) hl2;have h4:(256:Nat) ^ 8=18446744073709551616:=by decide
    obtain ⟨n,hn⟩:∃ n,n=numN (((l.drop p).take k).take i):=⟨_,rfl⟩;rw [← hn] at hst ⊢;refine Ax (Aa (Aq (Av (Aw (Ae U U (FT U U U (by omega) (by omega) ?_))))));refine Ap U U (Ae U U (Ae U U (Ao U U U (by omega) (by omega) ?_)));refine AX R U C6 FO U U (by omega) (by omega) U ?_;rw [show ((p:Int)+(i:Int)).toNat=p+i from by omega];refine AY U Wy U (((R.ext0 H.ext).one (f:=bv) hx2)) ?_;refine Dh U U Gj Da (by omega) (by omega) ?_;refine Fh U U U (by omega) (by omega) ?_;refine Ad U U (Ab (A3 (Aa (Aw (Ae U U (Ao U U U (by omega) (by omega) ?_))))));refine Ad U U (Ab (Aa ?_));exact ⟨i+1,rfl,⟨rfl,congrArg (Value.int .u64) (by rw [hst]; omega),trivial⟩,⟨by omega,H⟩,by omega⟩
   ·intro h5;replace h5:=AH h5;obtain rfl:i=k:=by omega
    refine Bc (Aj (Aj (AD (Aa (Ag (Ae U U (Ae U U (Ae U U (Ao U U U (by omega) (by omega) ?_)))))))));refine Ad U U (Ad U U (Ad U U (Ab (Aa (A9 (CZ (v1:=(.int _ _)) (v2:=(.int _ _)) (v3:=(.int _ _)) U U U U U ?_))))));rw [show ((l.drop p).take i).take i=(l.drop p).take i from List.take_of_length_le (by omega)];exact ⟨rfl,H.ext⟩
abbrev rkL (br:Nat) (a:Option Addr) (c:Nat) (l:List UInt8) (s:Nat × Bool):List (Nat × Obj):=[(br,Bl 150 [.slice a l.length c,.int .i64 (s.1:Int),.bool s.2])]
set_option maxHeartbeats 1000000 in
theorem Yx (br:Nat) (a:Option Addr) (c:Nat) (l:List UInt8) (s:Nat × Bool) (k:Nat) (w:World) (B:TkB w [br] a c l) (H:Ctx w [br] w (rkL br a c l s)) (hs:s.1≤l.length) (hk:KO k) :
  Ret Tryz.prog 92 #[ptr br,.int .i64 (k:Int)] w fun v w'=>v = .int .u64 ((nx l k s).1:Int)∧Ctx w [br] w' (rkL br a c l (nx l k s).2):=by
 obtain ⟨w0,rfl⟩:∃ w0,w0=w:=⟨_,rfl⟩;obtain ⟨p,bad⟩:=s;dsimp only at hs;have hm:=B.hm;have hb0:=H.get at0
 cases bad with
 | true =>
  obtain ⟨n,o,e,hT⟩:=RW (k:=k) hk hs;refine A2 (fn:=Tryz.f92) Tryz.func92 U [ptr br,.int .i64 (k:Int)] U (by kernel_rfl) ?_;refine Ag (Ad U U (Ab (Aa (CI [([0,1,2,3,4,5,6,7,8],9),([10,11,12,13,14,15],16)] (fun z=>Ctx w0 [br] z (rkL br a c l (p,true))) [] B0 (by kernel_rfl) (H.drew) ?_))));refine AL U U ?_;refine Dd U U (B6 U U (AJ U MR U (BM U Om U (fun _ hx=>(by rw [Au (hx.get at0)]; rfl)) ?_)));refine Dd U U (B6 U U (AJ U K3 U (BM U BG U (fun _ hx=>(by rw [Au (hx.get at0)]; rfl)) ?_)));refine AP U U (Bu ?_);replace H:=H.drew;refine Al U SD (N5 a c _ l p k _ (B.at H.ext) U (by omega) hs hk) U ?_;rintro v w ⟨rfl,hx18⟩;replace H:=H.call hx18;rw [hT];refine Ab (BH (H) ?_);refine AL U U ?_;refine Ks U U (D6 U U U (D6 U U U (D6 U U U (Ft U U (Ft U U (Bu (Ad U U (Ab (BH (H) ?_)))))))));refine BS (Aq (Ag (Ba U U (AZ U U (Ah U FI U (AA U Fx U H at0 U (Ak U U (Af U (Af U ?_)))))))))
  refine An U U (.bool _) U (Ab (Aa (Dc U (Ag (Ba U U (AZ U U (Ah U FI U (BX (.bool _) U LG U U U H at0 (by (simp; done)) ?_))))))));rintro w H;refine Ab (Aa (Ag (Ad U U (Ab (Aa (A9 (Am (AF (v:=(.int _ _)) U U U ?_))))))));exact ⟨rfl,H⟩
 | false =>
  by_cases hf:p+k≤l.length
  ·have hT:=KP hk hf;rw [Yt hf];refine A2 (fn:=Tryz.f92) Tryz.func92 U [ptr br,.int .i64 (k:Int)] U (by kernel_rfl) ?_;refine Ag (Ad U U (Ab (Aa (CI [([0,1,2,3,4,5,6,7,8],9),([10,11,12,13,14,15],16)] (fun z=>Ctx w0 [br] z (rkL br a c l (p,false))) [] B0 (by kernel_rfl) (H.drew) ?_))));refine AL U U ?_;refine Dd U U (B6 U U (AJ U MR U (BM U Om U (fun _ hx=>(by rw [Au (hx.get at0)]; rfl)) ?_)));refine Dd U U (B6 U U (AJ U K3 U (BM U BG U (fun _ hx=>(by rw [Au (hx.get at0)]; rfl)) ?_)));refine AP U U (Bu ?_);replace H:=H.drew;refine Al U SD (N5 a c _ l p k _ (B.at H.ext) U (by omega) hs hk) U ?_;rintro v w ⟨rfl,hx18⟩;replace H:=H.call hx18;rw [hT];refine Ab (BH (H) ?_);refine AL U U ?_;refine Ks U U (D6 U U U (D6 U U U (D6 U U U (Ft U U (Ft U U (Bu (Ad U U (Ab (BH (H) ?_)))))))));refine BS (Aq (Ag (Ba U U (AZ U U (Ah U FI U (AA U Fx U H at0 U (Ak U U (Ae U U (CC U U U ?_)))))))))
   refine A1 U U (.bool _) U (Ab (Aa (Ay _ U ?_ ?_)))
   ·intro h1;replace h1:=CK h1;exact absurd h1 (by decide)
   ·intro h1;replace h1:=CL h1;refine Ax (Aa (Ag (Ba U U (Ae U U (AZ U U (Ah U K3 U (BX (.int _ _) U EV U U U H at0 (by (simp; done)) ?_)))))));rintro w H;refine Ab (Aa (Ag (Ae U U (Ad U U (Ab (Aa (A9 (AF (v:=(.int _ _)) U U U ?_))))))));exact ⟨rfl,H⟩
  ·have hT:=KQ hk hs hf;rw [Yu hf];refine A2 (fn:=Tryz.f92) Tryz.func92 U [ptr br,.int .i64 (k:Int)] U (by kernel_rfl) ?_;refine Ag (Ad U U (Ab (Aa (CI [([0,1,2,3,4,5,6,7,8],9),([10,11,12,13,14,15],16)] (fun z=>Ctx w0 [br] z (rkL br a c l (p,false))) [] B0 (by kernel_rfl) (H.drew) ?_))));refine AL U U ?_;refine Dd U U (B6 U U (AJ U MR U (BM U Om U (fun _ hx=>(by rw [Au (hx.get at0)]; rfl)) ?_)));refine Dd U U (B6 U U (AJ U K3 U (BM U BG U (fun _ hx=>(by rw [Au (hx.get at0)]; rfl)) ?_)));refine AP U U (Bu ?_);replace H:=H.drew;refine Al U SD (N5 a c _ l p k _ (B.at H.ext) U (by omega) hs hk) U ?_;rintro v w ⟨rfl,hx18⟩;replace H:=H.call hx18;rw [hT];refine Ab (BH (H) ?_);refine AL U U ?_;refine Ks U U (D6 U U U (D6 U U U (D6 U U U (Ft U U (Ft U U (Bu (Ad U U (Ab (BH (H) ?_)))))))));refine BS (Aq (Ag (Ba U U (AZ U U (Ah U FI U (AA U Fx U H at0 U (Ak U U (Ae U U (CC U U U ?_)))))))))
   refine A1 U U (.bool _) U (Ab (Aa (Ay _ U ?_ ?_)))
   ·intro h1;replace h1:=CK h1;refine Ag (Ba U U (AZ U U (Ah U FI U (BX (.bool _) U LG U U U H at0 (by (simp; done)) ?_))));rintro w H;refine Ab (Aa (Ag (Ad U U (Ab (Aa (A9 (Am (AF (v:=(.int _ _)) U U U ?_))))))));exact ⟨rfl,H⟩
   ·intro h1;replace h1:=CL h1;exact absurd h1 (by decide)
end Go.Proofs.YtapphbmlkdhnmaaGreat

/- What the bytes of a round say (the parse, in plain words), where it lies while it is gathered, and the function that adds an edge and its flow. -/
namespace Go.Proofs.YtapphbmlkdhnmaaGreat
open Go.GV
attribute [local irreducible] AC W Wq Wt

theorem qk_of {K:Env→World→Prop} {e:Env} {w:World} (h:K e w):Qk K .normal e w:=h

/-! ### The parse -/
structure PRd where
 ids:List Int
 es:List Ed
 fl:List Int
 pot:List Int
 s:Nat × Bool
/-- A number and its place. -/
def KS (l:List UInt8) (e:Ed) (p:PRd):PRd:=⟨p.ids,p.es++[e],p.fl++[s64 (nx l 8 p.s).1],p.pot,(nx l 8 p.s).2⟩
def idP (l:List UInt8) (p:PRd):PRd:=⟨p.ids++[((nx l 8 p.s).1:Int)],p.es,p.fl,p.pot,(nx l 8 p.s).2⟩
def atP (p:PRd) (s:Nat × Bool):PRd:=⟨p.ids,p.es,p.fl,p.pot,s⟩
/-- A due: its id, its banks, its amount, its weight, its flow. -/
def dueP (l:List UInt8) (p:PRd):PRd :=
 let s1:=(nx l 8 p.s).2
 let s2:=(nx l 1 s1).2
 let s3:=(nx l 1 s2).2
 let s4:=(nx l 8 s3).2
 let s5:=(nx l 2 s4).2
 KS l ⟨((nx l 1 s1).1:Int),((nx l 1 s2).1:Int),s64 (nx l 8 s3).1,-((nx l 2 s4).1:Int)⟩ (atP (idP l p) s5)
def JT (l:List UInt8):Nat→PRd→PRd
 | 0,p=>p
 | d+1,p=>if p.s.2=true then p else JT l d (dueP l p)
/-- A bank: its room and the two flows. -/
def U8 (l:List UInt8) (h i:Nat) (p:PRd):PRd :=
 let s1:=(nx l 8 p.s).2
 KS l ⟨(i:Int),(h:Int),4503599627370496,0⟩ (KS l ⟨(h:Int),(i:Int),s64 (nx l 8 p.s).1,0⟩ (atP p s1))
def Gy (l:List UInt8) (h:Nat):Nat→Nat→PRd→PRd
 | 0,_,p=>p
 | n+1,i,p=>if p.s.2=true then p else Gy l h n (i+1) (U8 l h i p)
def potP (l:List UInt8) (p:PRd):PRd:=⟨p.ids,p.es,p.fl,p.pot++[s64 (nx l 8 p.s).1],(nx l 8 p.s).2⟩
def JU (l:List UInt8):Nat→PRd→PRd
 | 0,p=>p
 | n+1,p=>if p.s.2=true then p else JU l n (potP l p)
/-- What stands ahead. -/
structure Hd where
 no:Int
 day:Int
 cmp:Bool
 N:Int
def hs1 (l:List UInt8):Nat × Bool:=(nx l 4 (0,false)).2
def hs2 (l:List UInt8):Nat × Bool:=(nx l 8 (hs1 l)).2
def hs3 (l:List UInt8):Nat × Bool:=(nx l 8 (hs2 l)).2
def hs4 (l:List UInt8):Nat × Bool:=(nx l 1 (hs3 l)).2
def hs5 (l:List UInt8):Nat × Bool:=(nx l 1 (hs4 l)).2
def hs6 (l:List UInt8):Nat × Bool:=(nx l 1 (hs5 l)).2
def Cf (l:List UInt8):Nat:=(nx l 1 (hs4 l)).1
def Jo (l:List UInt8):Nat:=(nx l 1 (hs5 l)).1
def hdP (l:List UInt8):Hd:=⟨((nx l 8 (hs1 l)).1:Int),s64 (nx l 8 (hs2 l)).1,decide (((nx l 1 (hs3 l)).1:Int)=1),(Cf l:Int)+1⟩
def G4 (h:Hd) (p:PRd):Rnd:=⟨h.no,h.day,h.cmp,p.ids,h.N,p.es,p.fl,p.pot⟩
def Jp (l:List UInt8):PRd :=
 let p1:=JT l (Jo l) ⟨[],[],[],[],hs6 l⟩
 let p2:=if (hdP l).cmp=true then p1 else Gy l (Cf l) (Cf l) 0 p1
 JU l (Cf l+1) p2
def LJ (l:List UInt8):Rnd:=G4 (hdP l) (Jp l)
/-- The round of bytes, if they are put as they stand. -/
def Hz (l:List UInt8):Bool := !(Jp l).s.2 && (Bw (LJ l) && decide (Fa (LJ l)=l))

/-! ### Where it lies -/
structure Gt where
 ba:Nat
 bd:Nat
 bb:Nat
 b2:Nat
 b4:Nat
 b6:Nat
 b7:Nat
 a:Option Addr
 c:Nat
 l:List UInt8
structure Gs where
 p:PRd
 aI:Option Addr
 cI:Nat
 fI:List Value
 aE:Option Addr
 cE:Nat
 fE:List Value
 aF:Option Addr
 cF:Nat
 fF:List Value
 aP:Option Addr
 cP:Nat
 fP:List Value
abbrev Gs.q (g:Gs):RSl:=⟨g.aI,g.cI,g.aE,g.cE,g.aF,g.cF,g.aP,g.cP⟩
abbrev NL (b4:Nat):Value := .func (.func 80) #[] [ptr b4].toArray
abbrev EY:Rnd:=⟨0,0,false,[],0,[],[],[]⟩
abbrev E0:RSl:=⟨none,0,none,0,none,0,none,0⟩
abbrev gE (g:Gs):List (Nat × Obj):=ent g.aI 24 g.fI++(ent g.aE 92 g.fE++(ent g.aF 2 g.fF++ent g.aP 2 g.fP))
abbrev gC (T:Gt) (h:Hd) (g:Gs):List (Nat × Obj):=[(T.b7,Bl 33 (A8 (G4 h g.p) g.q)),(T.b6,Bl 139 [NL T.b4]),(T.b4,Bl 136 [G1 T.bb T.ba T.bd]),(T.bb,Bl 69 [.slice T.a T.l.length T.c]),(T.b2,Bl 33 (A8 EY E0))]
abbrev gL (T:Gt) (h:Hd) (g:Gs) (s:Nat × Bool):List (Nat × Obj):=tkL T.ba T.bd s++(gC T h g++gE g)
structure GOk (T:Gt) (h:Hd) (w0 w:World) (g:Gs):Prop where
 H:Ctx w0 [] w (gL T h g g.p.s)
 I:OS g.aI g.p.ids.length g.cI 1 g.fI (g.p.ids.flatMap U1)
 E:OS g.aE g.p.es.length g.cE 4 g.fE (g.p.es.flatMap Br)
 F:OS g.aF g.p.fl.length g.cF 1 g.fF (g.p.fl.flatMap I1)
 P:OS g.aP g.p.pot.length g.cP 1 g.fP (g.p.pot.flatMap I1)
 hs:g.p.s.1≤T.l.length
/-- What is fixed. -/
structure GFix (T:Gt) (w0:World):Prop where
 R:Rd w0 T.a 1 B8 T.l
 off:T.l≠[]→(adr T.a).block<w0.heap.size
 hc:T.l.length≤T.c
 hm:T.l.length≤100000
theorem Ctx.tkb {T:Gt} {w0 w:World} {s:Nat × Bool} {L:List (Nat × Obj)} (H:Ctx w0 [] w (tkL T.ba T.bd s++L)) (X:GFix T w0):TkB w [T.ba,T.bd] T.a T.c T.l:=by
 refine ⟨X.R.ext0 H.ext,fun hl h=>?_,X.hc,X.hm⟩;have h1:=X.off hl;have h2:w0.heap.size≤T.ba:=(H.own _ (List.mem_cons_self ..)).elim (fun h=>by cases h) id;have h3:w0.heap.size≤T.bd:=(H.own _ (List.mem_cons_of_mem _ (List.mem_cons_self ..))).elim (fun h=>by cases h) id;simp only [List.mem_cons,List.not_mem_nil,or_false] at h;omega
theorem Ctx.nbL {T:Gt} {w0 w:World} {s:Nat × Bool} {L:List (Nat × Obj)} {o:Obj} (H:Ctx w0 [] w (tkL T.ba T.bd s++L)) {b:Nat} (hL:(b,o)∈L):b∉[T.ba,T.bd]:=fun hm=>by
 have h1:=(List.pairwise_append.1 H.nd).2.2;simp only [List.mem_cons,List.not_mem_nil,or_false] at hm
 rcases hm with rfl | rfl
 ·exact h1 _ (List.mem_cons_self ..) _ hL U
 ·exact h1 _ (List.mem_cons_of_mem _ (List.mem_cons_self ..)) _ hL U
/-- The next number, whatever else stands there. -/
theorem Jq {T:Gt} {w0 w:World} {s:Nat × Bool} {L:List (Nat × Obj)} (X:GFix T w0) (H:Ctx w0 [] w (tkL T.ba T.bd s++L)) (hL:(T.bb,Bl 69 [.slice T.a T.l.length T.c])∈L) (hs:s.1≤T.l.length) {k:Nat} (hk:KO k) :
  Ret Tryz.prog 144 #[.int .i64 (k:Int),ptr T.bb,ptr T.ba,ptr T.bd] w fun v w'=>v = .int .u64 ((nx T.l k s).1:Int)∧Ctx w0 [] w' (tkL T.ba T.bd (nx T.l k s).2++L)∧Ext [T.ba,T.bd] w w' :=
 Ret.mono (Yw T.bb T.ba T.bd T.a T.c T.l s k w (Ctx.tkb H X) (H.blk _ (List.mem_append_right _ hL)) (Ctx.nbL H hL) (Ctx.lend H) hs hk) fun _ _ ⟨h1,h2⟩=>⟨h1,Ctx.back H h2,h2.ext⟩
theorem U9 {T:Gt} {w0 w:World} {s:Nat × Bool} {L:List (Nat × Obj)} (X:GFix T w0) (H:Ctx w0 [] w (tkL T.ba T.bd s++L)) (hL:(T.bb,Bl 69 [.slice T.a T.l.length T.c])∈L) (h4:(T.b4,Bl 136 [G1 T.bb T.ba T.bd])∈L) (hs:s.1≤T.l.length) :
  Ret Tryz.prog 80 #[ptr T.b4] w fun v w'=>v = .int .i64 (s64 (nx T.l 8 s).1)∧Ctx w0 [] w' (tkL T.ba T.bd (nx T.l 8 s).2++L)∧Ext [T.ba,T.bd] w w' :=
 Ret.mono (Aeq T.b4 T.bb T.ba T.bd T.a T.c T.l s w (Ctx.tkb H X) (H.blk _ (List.mem_append_right _ hL)) (Ctx.nbL H hL) (Ctx.lend H) hs (H.blk _ (List.mem_append_right _ h4))) fun _ _ ⟨h1,h2⟩=>⟨h1,Ctx.back H h2,h2.ext⟩
/-- The same, in the midst of it all. -/
theorem Jr {T:Gt} {h:Hd} {g:Gs} {w0 w:World} {s:Nat × Bool} (X:GFix T w0) (H:Ctx w0 [] w (gL T h g s)) (hs:s.1≤T.l.length) {k:Nat} (hk:KO k) :
  Ret Tryz.prog 144 #[.int .i64 (k:Int),ptr T.bb,ptr T.ba,ptr T.bd] w fun v w'=>v = .int .u64 ((nx T.l k s).1:Int)∧Ctx w0 [] w' (gL T h g (nx T.l k s).2)∧Ext [T.ba,T.bd] w w' :=
 Jq X H (by simp) hs hk
theorem Mk {T:Gt} {h:Hd} {g:Gs} {w0 w:World} {s:Nat × Bool} (X:GFix T w0) (H:Ctx w0 [] w (gL T h g s)) (hs:s.1≤T.l.length) :
  Ret Tryz.prog 80 #[ptr T.b4] w fun v w'=>v = .int .i64 (s64 (nx T.l 8 s).1)∧Ctx w0 [] w' (gL T h g (nx T.l 8 s).2)∧Ext [T.ba,T.bd] w w' :=
 U9 X H (by simp) (by simp) hs
theorem Ctx.ltS {T:Gt} {h:Hd} {g:Gs} {w0 w:World} {s:Nat × Bool} (H:Ctx w0 [] w (gL T h g s)):∀ x∈[T.ba,T.bd],x<w.heap.size:=fun x hx=>by
 simp only [List.mem_cons,List.not_mem_nil,or_false] at hx
 rcases hx with rfl | rfl
 ·exact H.lt (k:=0) U
 ·exact H.lt (k:=1) U
/-! ### One of the four slices at the end -/
theorem pmI {α:Type} (X I R:List α):(X++(I++R)).Perm ((X++R)++I):=by
 rw [List.append_assoc];exact List.Perm.append_left X List.perm_append_comm
theorem pmE {α:Type} (X I E R:List α):(X++(I++(E++R))).Perm ((X++(I++R))++E):=by
 have:=pmI (X++I) E R
 simpa only [List.append_assoc] using this
theorem pmF {α:Type} (X I E F R:List α):(X++(I++(E++(F++R)))).Perm ((X++(I++(E++R)))++F):=by
 have:=pmI (X++I++E) F R
 simpa only [List.append_assoc] using this
theorem pmP {α:Type} (X I E F P:List α):(X++(I++(E++(F++P)))).Perm ((X++(I++(E++F)))++P):=by
 simp only [List.append_assoc];exact List.Perm.refl _
theorem Qg {α:Type} (A B I R:List α):(A++(B++(I++R))).Perm ((A++(B++R))++I):=by
 have:=pmI (A++B) I R
 simpa only [List.append_assoc] using this
theorem Qh {α:Type} (A B I E R:List α):(A++(B++(I++(E++R)))).Perm ((A++(B++(I++R)))++E):=by
 have:=pmE (A++B) I E R
 simpa only [List.append_assoc] using this
theorem Lr {α:Type} (A B I E F R:List α):(A++(B++(I++(E++(F++R))))).Perm ((A++(B++(I++(E++R))))++F):=by
 have:=pmF (A++B) I E F R
 simpa only [List.append_assoc] using this
theorem Qi {α:Type} (A B I E F P:List α):(A++(B++(I++(E++(F++P))))).Perm ((A++(B++(I++(E++F))))++P):=by
 have:=pmP (A++B) I E F P
 simpa only [List.append_assoc] using this
set_option maxRecDepth 20000 in
set_option maxHeartbeats 4000000 in
theorem Ls {T:Gt} {h:Hd} {g:Gs} {w0 w:World} (X:GFix T w0) (G:GOk T h w0 w g) (e:Ed) (hE:g.p.es.length≤100000) (hF:g.p.fl.length≤100000) :
  Ret Tryz.prog 81 #[.agg (Br e).toArray,ptr T.b7,ptr T.b6] w fun _ w'=>∃ g',GOk T h w0 w' g'∧g'.p=KS T.l e g.p:=by
 obtain ⟨⟨ids,es,fl,pot,s⟩,aI,cI,fI,aE,cE,fE,aF,cF,fF,aP,cP,fP⟩:=g;obtain ⟨H,OI,OE,OF,OP,hs⟩:=G;dsimp only at H OI OE OF OP hs hE hF;refine A2 (fn:=Tryz.f81) Tryz.func81 U [.agg (Br e).toArray,ptr T.b7,ptr T.b6] U (by kernel_rfl) ?_;refine Ag (Bt U (Br e) (.agg _) U U H ?_);rintro b3 w - H;refine Ab (Aa (Ag (Ah U C4 U (Ah U BD U (AA U C5 U H at3 U (Bh U DT B3 U H at0 U (D4 _ (.agg _) U BO B3 Dn U (by decide) (by decide) U U U H ?_)))))));rintro b8 w - H;refine Dr (a:=aE) (n:=es.length) (c:=cE) U BO BO B3 QK Dn U (by decide) U U (Ctx.perm (H.erase 1) ((Qh _ _ _ _ _).cons _)) OE U (CN _) (by omega) ?_;rintro aE' cE' fE' w H OE';replace H:=H.perm (Qh _ _ _ _ _).symm;rw [show es.length+1=(es++[e]).length from by simp] at OE' ⊢;replace OE':OS aE' (es++[e]).length cE' 4 fE' ((es++[e]).flatMap Br):=by { rw [List.flatMap_append]; simpa using OE' }
 refine Ah U C4 U (Ah U BD U (BX (.slice _ _ _) U TX U U U H at2 (by (simp; done)) ?_));rintro w H;refine Ab (Aa ?_);replace H:Ctx w0 [] _ (gL T h ⟨⟨ids,es++[e],fl,pot,s⟩,aI,cI,fI,aE',cE',fE',aF,cF,fF,aP,cP,fP⟩ s):=H;have hSw:=Ctx.ltS H
 refine E6 (n:=6) (N:=10) (anc:=IU 6 [[],[0],[0,1],[],[3],[3,4]]) [T.ba,T.bd] (fun i=>12+i) [isV (.pointer (some ⟨T.b7,6,none⟩)),isV (.pointer (some ⟨T.b7,6,none⟩)),isV (.slice aF fl.length cF),isV (NL T.b4),isV (.int .i64 (s64 (nx T.l 8 s).1)),nsV w 2 1 [.int .i64 (s64 (nx T.l 8 s).1)]] [4] (fun k w'=>Ctx w0 [] w' (gL T h ⟨⟨ids,es++[e],fl,pot,s⟩,aI,cI,fI,aE',cE',fE',aF,cF,fF,aP,cP,fP⟩ ([s,(nx T.l 8 s).2].getD k s))) (show Tryz.prog.follows .mixedOrders=true by kernel_rfl) U (by decide) (by kernel_rfl) (D8 _) (fun i j _ _ h=>by have h:12+i=12+j:=h; omega) ⟨Bj _ _,Bj _ _,Bj _ _,Bj _ _,Bj _ _,Hj hSw _ _ _,trivial⟩ (by kernel_rfl) (fun k w w2 h hx=>h.call hx) H.drew (by kernel_rfl) ?_ ?_ ?_
 ·rintro m o e' w' hm hic ho hold hg hx ⟨k,HJ⟩;have hin:∀ t:Nat,t<12→∀ j,j<6→t≠(fun i=>12+i) j:=fun t ht j hj=>by dsimp only; omega
  have g1:e'.g 1=ptr T.b7:=(hold 1 (hin 1 (by decide))).trans rfl;have g2:e'.g 2=ptr T.b6:=(hold 2 (hin 2 (by decide))).trans rfl;have hcs:m=0∨m=1∨m=2∨m=3∨m=4∨m=5:=by omega
  rcases hcs with rfl | rfl | rfl | rfl | rfl | rfl
  ·cases Option.some.inj ho;exact Ah (off:=6) U (by kernel_rfl) g1 (Ab ⟨_,.refl _ _,rfl,rfl⟩)
  ·cases Option.some.inj ho;exact Ah (off:=0) U (by kernel_rfl) (hg 0 (by decide)) (Ab ⟨_,.refl _ _,rfl,rfl⟩)
  ·cases Option.some.inj ho;exact AY U BC (hg 1 (by decide)) (by rw [Au (HJ.get (k:=2) rfl)]; rfl) (Ab ⟨_,.refl _ _,rfl,rfl⟩)
  ·cases Option.some.inj ho;exact AY U MP g2 (by rw [Au (HJ.get (k:=3) rfl)]; rfl) (Ab ⟨_,.refl _ _,rfl,rfl⟩)
  ·exact absurd (by decide) hic
  ·cases Option.some.inj ho;refine CJ [.int .i64 (s64 (nx T.l 8 s).1)] U AU Bz FJ (by decide) (by decide) ?_ (Ctx.start w' []) ?_
   ·show Instr.fill _ _ [(0,e'.g 16)]=_;rw [show e'.g 16 = .int .i64 (s64 (nx T.l 8 s).1) from (hg 4 (by decide))];kernel_rfl
   ·intro b w2 _ H;exact Ab ⟨_,H.ext,rfl,b,rfl,H.get at0,Nat.le_trans hx.size ((H.own _ (List.mem_cons_self ..)).elim (fun h=>by cases h) id)⟩
 ·intro k i o e' w' hk ho hold hg hx HJ;have hin:∀ t:Nat,t<12→∀ j,j<6→t≠(fun i=>12+i) j:=fun t ht j hj=>by dsimp only; omega
  have g1:e'.g 1=ptr T.b7:=(hold 1 (hin 1 (by decide))).trans rfl;have g2:e'.g 2=ptr T.b6:=(hold 2 (hin 2 (by decide))).trans rfl
  rcases k with _ | k
  ·cases hk;cases Option.some.inj ho;refine C0 U (hg 3 (by decide)) QL (Mk X HJ hs) U ?_;rintro v w2 ⟨rfl,h2,h3⟩;exact Ab ⟨_,h3,rfl,rfl,h2⟩
  ·simp at hk
 ·intro e' w' hds hold hg hx HJ;have hin:∀ t:Nat,t<12→∀ j,j<6→t≠(fun i=>12+i) j:=fun t ht j hj=>by dsimp only; omega
  obtain ⟨b5,h5,hb5,hn5⟩:=hg 5 (by decide);replace HJ:Ctx w0 [] w' (gL T h ⟨⟨ids,es++[e],fl,pot,s⟩,aI,cI,fI,aE',cE',fE',aF,cF,fF,aP,cP,fP⟩ (nx T.l 8 s).2):=HJ;refine Dt U AU AU Bz Kz FJ U (by decide) [.int .i64 (s64 (nx T.l 8 s).1)] (hg 2 (by decide)) h5 (Ctx.perm HJ (Lr _ _ _ _ _ _)) OF U (by simp [B4]) (fun j v hv=>⟨_,rfl,by rw [Co,Nat.zero_add,Au hb5]; exact hv⟩) (by omega) fun a' c' full' w3 H6 O6=>?_;replace H6:=H6.perm (Lr _ _ _ _ _ _).symm;rw [show fl.length+1=(fl++[s64 (nx T.l 8 s).1]).length from by simp] at O6 ⊢;refine Ah (off:=6) U (by kernel_rfl) ((hold 1 (hin 1 (by decide))).trans U) ?_;refine Ah (off:=0) U (by kernel_rfl) (CH _ _ _) ?_;refine BX (.slice a' (fl++[s64 (nx T.l 8 s).1]).length c') U Ot (CH _ _ _) U U H6 at2 (by simp) fun w4 H8=>Ab ?_
  refine qk_of (Db U (hds.trans U) ⟨⟨⟨ids,es++[e],fl++[s64 (nx T.l 8 s).1],pot,(nx T.l 8 s).2⟩,aI,cI,fI,aE',cE',fE',a',c',full',aP,cP,fP⟩,⟨H8,OI,OE',?_,OP,EF hs⟩,rfl⟩);dsimp only;rw [List.flatMap_append]
  simpa using O6
end Go.Proofs.YtapphbmlkdhnmaaGreat
