/- Part 11 of the proof. -/
import Derived.Test.YtdagmpmdcgedcaaGreatPart2
import Derived.Test.YtdagmpmdcgedcaaGreatPart10
import Derived.Test.YtdagmpmdcgedcaaGreatPart4
import Derived.Test.YtdagmpmdcgedcaaGreatPart9
namespace Go.Proofs.YtdagmpmdcgedcaaGreat
open Go.GV
attribute [local irreducible] AD W Wq Wt
abbrev AL (bd:Nat) (x1 x2:Nat × Obj) (a:Option Addr) (n c:Nat) (full:List Value):List (Nat × Obj):=(bd,Bl 162 [.slice a n c])::x1::x2::ent a 43 full
theorem Yi {bd c:Nat} {x1 x2:Nat × Obj} {a:Option Addr} {full:List Value} {acs:List Ac} {S:List Nat} {w0 w:World} (H0:Ctx w0 S w (AL bd x1 x2 a acs.length c full)) (O:OS a acs.length c 2 full (acs.flatMap CX))  (hn:acs.length≤1000000:=by omega):
  Ret Tryz.prog 102 #[ptr bd] w fun v w'=>(16≤acs.length→v = .tuple #[.int .i64 0,.int .i64 6]∧Ctx w0 S w' (AL bd x1 x2 a acs.length c full)) ∧
   (acs.length<16→v = .tuple #[.int .i64 (acs.length:Int),.int .i64 0]∧∃ a' c' full',OS a' (acs++[a00]).length c' 2 full' ((acs++[a00]).flatMap CX)∧Ctx w0 S w' (AL bd x1 x2 a' (acs++[a00]).length c' full')):=by
 have H:=H0;refine Az (fn:=Tryz.f102) Tryz.func102 U [.pointer (some ⟨bd,0,none⟩)] U (by kernel_rfl) ?_;refine Ae (Af U (Af U (Ab (Aa (Au (A0 (Ae (A2 U (Cw Nm U ?_)))))))));refine Ai U (Ab (Aa (Ao _ U ?_ ?_)))
 ·intro h0;cases h0
 ·intro h0;refine Ae (A2 U (AA U (Ah E5 U (AH Ff U H at0 U (Be DA U (C9 U U (Ai U (Ab (Aa (Ao _ U ?_ ?_))))))))))
  ·intro h1;replace h1:=AM h1;refine Ae (Af U (Af U (Ab (Aa (A5 (AB (Aq (Ca (v1:=(.int _ _)) (v2:=(.int _ _)) U U U U ?_))))))));exact ⟨fun _=>⟨rfl,H⟩,fun h=>by omega⟩
  ·intro h1;replace h1:=AN h1;refine Ap (A6 (Aa (Ae (A2 U (A2 U (AA U (Ah E5 U (AH Ff U H at0 U (B6 [.int .i64 0,.int .i64 0] Afr JA (by kernel_rfl) ?_)))))))));refine Cj _ (.agg _) DA DB JA U (by decide) (by decide) U U U H ?_;rintro b20 w - H;refine CF (L:=[_,_,_]) DA DA DB Afm JA U (by decide) U U H O U (fun v hv=>by simp [] at hv; rcases hv with rfl | rfl <;> rfl) ?_;rintro a' c' full' w H O;refine AA U (Ah E5 U (Ci (.slice _ _ _) sz_26 U U U H at0 (by (simp; done)) ?_));rintro w H;refine Ab (Aa (Ae (A2 U (AA U (Ah E5 U (AH Ff U H at0 U (Be DA U (Bp U U ?_))))))));refine Af U (Af U (Ab (Aa (A5 (Ca (v1:=(.int _ _)) (v2:=(.int _ _)) U U U U ?_)))));refine ⟨fun h=>by omega,fun _=>⟨?_,a',c',full',?_,?_⟩⟩
   ·rw [show (((acs.length+1:Nat):Int) - 1)=(acs.length:Int) by omega]
   ·rw [List.flatMap_append,List.length_append]; exact O
   ·rw [List.length_append]; exact H
structure Qk where
 e:Int
 fid:FuncId
 cl:List Value
 b:Bool
abbrev Nb (q:Qk):List Value:=[.int .i64 q.e,.func (.func q.fid) #[] q.cl.toArray]
theorem Abi (q:Qk):∀ v∈Nb q,Bg v=true:=by
 intro v hv
 rcases List.mem_cons.1 hv with rfl | hv
 ·rfl
 ·rw [List.mem_singleton.1 hv]; rfl
def N1:List Qk→Int
 | []=>0
 | q::qs=>if q.b=false then q.e else N1 qs
theorem WQ:∀ {qs:List Qk} {i:Nat} {q:Qk},qs[i]? = some q→q.b=false→(∀ (j:Nat) (p:Qk),j<i→qs[j]? = some p→p.b=true)→N1 qs=q.e
 | [],_,_,h,_,_=>by cases h
 | p::qs,0,q,h,hb,_=>by
  cases h;exact if_pos hb
 | p::qs,i+1,q,h,hb,ha=>by
  unfold N1;rw [if_neg (by rw [ha 0 p (by omega) rfl]; decide)];exact WQ (show qs[i]? = some q from h) hb fun j r hj hr=>ha (j+1) r (by omega) hr
theorem Us:∀ {qs:List Qk},(∀ q∈qs,q.b=true)→N1 qs=0
 | [],_=>rfl
 | q::qs,h=>by
  unfold N1;rw [if_neg (by rw [h q (List.mem_cons_self ..)]; decide)];exact Us fun p hp=>h p (List.mem_cons_of_mem _ hp)
def IC (acs:List Ac) (k:Int) (qs:List Qk):Int:=if inA acs k=false then 10 else N1 qs
def AcsAt (w w':World) (a:Option Addr) (n c:Nat) (full:List Value) (acs:List Ac):Prop :=
 ∃ full',OS a n c 2 full' (acs.flatMap CX)∧(∀ x∈ent a 43 full',w'.heap[x.1]? = some x.2)∧Ext ((ent a 43 full).map (·.1)) w w'
set_option maxRecDepth 20000 in
set_option maxHeartbeats 1000000 in
theorem P8 {bd c cq:Nat} {a aq:Option Addr} {full:List Value} {acs:List Ac} {qs:List Qk} {k:Int} {fid:FuncId} {cl:List Value} {e:Ac} (w:World) (hd:w.heap[bd]? = some (Bl 162 [.slice a acs.length c])) (O:OS a acs.length c 2 full (acs.flatMap CX)) (hb:∀ x∈ent a 43 full,w.heap[x.1]? = some x.2)
  (Rq:Rd w aq 2 Nb qs) (hql:qs.length≤1000) (hq:∀ q∈qs,Av Tryz.prog q.fid=true∧q.e≠0∧∀ w',Ext [] w w'→Ret Tryz.prog q.fid q.cl.toArray w' fun v w''=>v = .bool q.b∧Ext [] w' w'')
  (hfc:Av Tryz.prog fid=true) (hdo:∀ q w',a=some ⟨q,0,none⟩→inA acs k=true→N1 qs=0→Ext [] w w'→Ret Tryz.prog fid (Value.pointer (some ⟨q,0+k.toNat*2,none⟩)::cl).toArray w' fun _ w''=>∃ full',OS a acs.length c 2 full' ((KI acs k e).flatMap CX)∧Ctx w' [q] w'' [(q,Bl 43 full')])  (hn:acs.length≤1000000:=by omega):
  Ret Tryz.prog 167 #[ptr bd,.int .i64 k,.func (.func fid) #[] cl.toArray,.slice aq qs.length cq] w fun v w'=>v = .int .i64 (IC acs k qs) ∧
   AcsAt w w' a acs.length c full (if IC acs k qs=0 then KI acs k e else acs):=by
 obtain ⟨w1,rfl⟩:∃ w1,w1=w:=⟨_,rfl⟩;have H:=Ctx.start w1 [];have hsame:∀ w',Ext [] w1 w'→AcsAt w1 w' a acs.length c full acs:=fun w' hx=>⟨full,O,fun x hxm=>hx.to (hb x hxm) (by simp),hx.mono (by simp)⟩;unfold IC;refine Az (fn:=Tryz.f167) Tryz.func167 U [.pointer (some ⟨bd,0,none⟩),.int .i64 k,.func (.func fid) #[] cl.toArray,.slice aq qs.length cq] U (by kernel_rfl) ?_;refine Ae (Af U (Ab (Aa (Au (A0 (Ae (A2 U (Cw Nm U ?_))))))));refine Ai U (Ab (Aa (Ao _ U ?_ ?_)))
 ·intro h0;cases h0
 ·intro h0;refine Au (Ae (Ad U (Bj U U (Ai U (Ab (Aa (Dk 14 U ?_ ?_)))))))
  ·intro h1;replace h1:=AM h1
   have hi:inA acs k=false:=by cases h:inA acs k with | false=>rfl | true=>have:=GD.1 h; omega
   refine Ap (Aa (DC U (Ae (Af U (Ab (Aa (A5 (AB (Aq (A9 (v:=(.int _ _)) U U U ?_))))))))));rw [if_pos hi,if_neg (by decide)];exact ⟨rfl,hsame _ H.ext⟩
  ·intro h1;replace h1:=AN h1;refine Ax (Ad U (A2 U (AA U (Ah E5 U (AV Ff U ((H.old (Aj hd _) (by simp))) ?_)))));refine Be DA U (C9 U U (Ai U (Ab (Aa (Dk 14 U ?_ ?_)))))
   ·intro h2;replace h2:=AM h2
    have hi:inA acs k=false:=by cases h:inA acs k with | false=>rfl | true=>have:=GD.1 h; omega
    refine Ae (Af U (Ab (Aa (A5 (AB (Aq (A9 (v:=(.int _ _)) U U U ?_)))))));rw [if_pos hi,if_neg (by decide)];exact ⟨rfl,hsame _ H.ext⟩
   ·intro h2;replace h2:=AN h2;have hi:inA acs k=true:=GD.2 (by omega);rw [if_neg (by rw [hi]; decide)];refine Ap (A6 (Aa (Au (Ae (Ay U (Be ON U (Ad U (Ab (Aa (A0 (Bv 137371845888 (α:=Nat) (fun i=>[(26,.int .i64 (i:Int))]) (fun i w'=>i≤qs.length∧Ctx w1 [] w' []∧∀ (j:Nat) (p:Qk),j<i→qs[j]? = some p→p.b=true) (fun i=>qs.length - i) 0 U ?_ ?_ ?_)))))))))))
    ·exact ⟨rfl,trivial⟩
    ·exact ⟨Nat.zero_le _,H,fun j p h=>absurd h (Nat.not_lt_zero _)⟩
    ·clear H;rintro i ji w ⟨hii,H,hbb⟩;refine Ae (Bj U U (Ab (Aa (Au (Ao _ U ?_ ?_)))))
     ·intro h3;replace h3:=AM h3;obtain ⟨q,hqi⟩:=A8 (l:=qs) (i:=i);obtain ⟨hqc,hqe,hqr⟩:=hq q (List.mem_of_getElem? hqi);refine Ap (Aa (Au (A0 (Ae (AX Rq ON MN U U (by rfl) ?_)))));refine BW _ Agg MN U U ((Rq.ext0 H.ext).row hqi U) ?_;refine Ba Jq H ?_;rintro b10 w - H;refine Bm MN U U U (by exact Abi _) H at0 U ?_;rintro w H;refine Ab (Aa (Ae (Ah Zv U (AH Afk U H at0 U (Gd U hqc (hqr _ H.ext) U ?_)))));rintro v w ⟨rfl,hx32⟩;replace H:=H.call hx32;refine BF U (Ab (Aa (Ao _ U ?_ ?_)))
      ·intro h4;replace h4:=BG h4
       have hqb:q.b=false:=by cases hh:q.b with | false=>rfl | true=>rw [hh] at h4; cases h4
       refine Ae (Ah Zu U (AH KP U H at0 U (Af U (Ab (Aa (A5 (AB (Aq (Aq (AB (Aq (A9 (v:=(.int _ _)) U U U ?_))))))))))));rw [WQ hqi hqb hbb,if_neg hqe];exact ⟨rfl,hsame _ H.ext⟩
      ·intro h4;replace h4:=BH h4
       have hqb:q.b=true:=by cases hh:q.b with | true=>rfl | false=>rw [hh] at h4; cases h4
       refine Ap (A6 (Aa (Ax (Aw U U ?_))));refine Ad U (Ab (Aa ?_))
       exact ⟨i+1,rfl,⟨rfl,trivial⟩,⟨by omega,H.tail,fun j p hj hp=>by
        rcases Nat.lt_or_ge j i with h5 | h5
        ·exact hbb j p h5 hp
        ·obtain rfl:j=i:=by omega
         rw [hqi] at hp;cases hp
         exact hqb⟩,by omega⟩
     ·intro h3;replace h3:=AN h3;obtain rfl:i=qs.length:=by omega
      have hC:N1 qs=0:=Us fun p hp=>by
       obtain ⟨j,hj⟩:=List.getElem?_of_mem hp;exact hbb j p (Cu hj) hj
      have hin:=GD.1 hi;obtain ⟨q,hqa⟩:=O.form (by omega);subst hqa;refine Br (An (An (AK (Aa (Ae (Dq U (.func _ _ _) U ?_))))));refine A2 U (AA U (Ah E5 U (AV Ff U ((H.old (Aj hd _) (by simp))) ?_)));refine Ad U (Bn DA DB U U ?_);refine Gd U hfc (hdo q _ U hi hC H.ext) U ?_;rintro v w ⟨full',O',H2⟩;refine Ab (Aa (Ae (Af U (Ab (Aa (A5 (A9 (v:=(.int _ _)) U U U ?_)))))));rw [hC,if_pos rfl];exact ⟨rfl,full',O',fun x hx=>by rw [List.mem_singleton.1 hx]; exact H2.get at0,(H.ext.mono (by simp)).trans H2.ext⟩
set_option maxRecDepth 20000 in
theorem Abj {bd c:Nat} {a:Option Addr} {acs:List Ac} {k:Int} {f q:Value} (w:World) (hd:w.heap[bd]? = some (Bl 162 [.slice a acs.length c])) (hi:inA acs k=false) :
  Ret Tryz.prog 167 #[ptr bd,.int .i64 k,f,q] w fun v w'=>v = .int .i64 10∧Ext [] w w':=by
 obtain ⟨w1,rfl⟩:∃ w1,w1=w:=⟨_,rfl⟩;have H:=Ctx.start w1 [];have hi2:¬ (0≤k∧k<acs.length):=fun h=>by rw [GD.2 h] at hi; cases hi
 refine Az (fn:=Tryz.f167) Tryz.func167 U [.pointer (some ⟨bd,0,none⟩),.int .i64 k,f,q] U (by kernel_rfl) ?_;refine Ae (Af U (Ab (Aa (Au (A0 (Ae (A2 U (Cw Nm U ?_))))))));refine Ai U (Ab (Aa (Ao _ U ?_ ?_)))
 ·intro h0;cases h0
 ·intro h0;refine Au (Ae (Ad U (Bj U U (Ai U (Ab (Aa (Dk 14 U ?_ ?_)))))))
  ·intro h1;replace h1:=AM h1;refine Ap (Aa (DC U (Ae (Af U (Ab (Aa (A5 (AB (Aq (A9 (v:=(.int _ _)) U U U ?_))))))))));exact ⟨rfl,H.ext⟩
  ·intro h1;replace h1:=AN h1;refine Ax (Ad U (A2 U (AA U (Ah E5 U (AV Ff U ((H.old (Aj hd _) (by simp))) ?_)))));refine Be DA U (C9 U U (Ai U (Ab (Aa (Dk 14 U ?_ ?_)))))
   ·intro h2;replace h2:=AM h2;refine Ae (Af U (Ab (Aa (A5 (AB (Aq (A9 (v:=(.int _ _)) U U U ?_)))))));exact ⟨rfl,H.ext⟩
   ·intro h2;replace h2:=AN h2;exact absurd ⟨by omega,by omega⟩ hi2
end Go.Proofs.YtdagmpmdcgedcaaGreat
namespace Go.Proofs.YtdagmpmdcgedcaaGreat
open Go.GV
attribute [local irreducible] AD W Wq Wt
theorem Abk {bx:Nat} {x:Int} (w:World) (h7:w.heap[bx]? = some (Bl 2 [.int .i64 x])) :
  Ret Tryz.prog 169 #[ptr bx] w fun v w'=>v = .bool (decide (0<x) && Df x)∧Ext [] w w':=by
 obtain ⟨w0,rfl⟩:∃ w0,w0=w:=⟨_,rfl⟩;have H:=Ctx.start w0 [];refine Az (fn:=Tryz.f169) Tryz.func169 U [.pointer (some ⟨bx,0,none⟩)] U (by kernel_rfl) ?_;refine Ae (Ai U (Ab (Aa (Ae (AV Bs U ((H.old (Aj h7 _) (by simp))) ?_)))));refine CZ U U (A7 U (AO 4 U ?_ ?_))
 ·intro h1;replace h1:=AM h1;refine AV Bs U ((H.old (Aj h7 _) (by simp))) ?_;refine Al Li (Lq x _) U ?_;rintro v w ⟨rfl,rfl⟩;refine AF U (.bool _) U (Ai U (Ab (Aa (A5 (A9 (v:=(.bool _)) U U U ?_)))));exact ⟨congrArg Value.bool (by rw [Bool.eq_iff_iff]; simp_all; try omega),H.ext⟩
 ·intro h2;replace h2:=AN h2;refine Ag U (Ag U (AG U (.bool _) U (Ai U (Ab (Aa (A5 (A9 (v:=(.bool _)) U U U ?_)))))));exact ⟨congrArg Value.bool (by rw [Bool.eq_iff_iff]; simp_all; try omega),H.ext⟩
theorem Abl {bx:Nat} {x:Int} (w:World) (h7:w.heap[bx]? = some (Bl 2 [.int .i64 x])) :
  Ret Tryz.prog 172 #[ptr bx] w fun v w'=>v = .bool (decide (0<x) && Df x)∧Ext [] w w':=by
 obtain ⟨w0,rfl⟩:∃ w0,w0=w:=⟨_,rfl⟩;have H:=Ctx.start w0 [];refine Az (fn:=Tryz.f172) Tryz.func172 U [.pointer (some ⟨bx,0,none⟩)] U (by kernel_rfl) ?_;refine Ae (Ai U (Ab (Aa (Ae (AV Bs U ((H.old (Aj h7 _) (by simp))) ?_)))));refine CZ U U (A7 U (AO 4 U ?_ ?_))
 ·intro h1;replace h1:=AM h1;refine AV Bs U ((H.old (Aj h7 _) (by simp))) ?_;refine Al Li (Lq x _) U ?_;rintro v w ⟨rfl,rfl⟩;refine AF U (.bool _) U (Ai U (Ab (Aa (A5 (A9 (v:=(.bool _)) U U U ?_)))));exact ⟨congrArg Value.bool (by rw [Bool.eq_iff_iff]; simp_all; try omega),H.ext⟩
 ·intro h2;replace h2:=AN h2;refine Ag U (Ag U (AG U (.bool _) U (Ai U (Ab (Aa (A5 (A9 (v:=(.bool _)) U U U ?_)))))));exact ⟨congrArg Value.bool (by rw [Bool.eq_iff_iff]; simp_all; try omega),H.ext⟩
theorem Aeu {bx:Nat} {x:Int} (w:World) (h7:w.heap[bx]? = some (Bl 2 [.int .i64 x])) :
  Ret Tryz.prog 175 #[ptr bx] w fun v w'=>v = .bool (Df x)∧Ext [] w w':=by
 obtain ⟨w0,rfl⟩:∃ w0,w0=w:=⟨_,rfl⟩;have H:=Ctx.start w0 [];refine Az (fn:=Tryz.f175) Tryz.func175 U [.pointer (some ⟨bx,0,none⟩)] U (by kernel_rfl) ?_;refine Ae (Ai U (Ab (Aa (Ae (AV Bs U ((H.old (Aj h7 _) (by simp))) ?_)))));refine Al Li (Lq x _) U ?_;rintro v w ⟨rfl,rfl⟩;refine Ai U (Ab (Aa (A5 (A9 (v:=(.bool _)) U U U ?_))));exact ⟨rfl,H.ext⟩
set_option maxRecDepth 20000 in
theorem Abm {q j bx:Nat} {ba x:Int} {full:List Value} (w:World) (h9:w.heap[q]? = some (Bl 43 full)) (hf:full[j]? = some (.int .i64 ba)) (h7:w.heap[bx]? = some (Bl 2 [.int .i64 x])) (hne:bx≠q) (hb:0≤ba∧ba≤4503599627370496) (hx:0≤x∧x≤4503599627370496) :
  Ret Tryz.prog 168 #[.pointer (some ⟨q,j,none⟩),ptr bx] w fun _ w'=>Ctx w [q] w' [(q,Bl 43 (full.set (j+0) (.int .i64 (ba+x))))]:=by
 obtain ⟨w0,rfl⟩:∃ w0,w0=w:=⟨_,rfl⟩;have H:=Ctx.start1 h9;have hn:bx∉[q]:=by rw [List.mem_singleton]; exact hne
 have hj:=Cu hf;refine Az (fn:=Tryz.f168) Tryz.func168 U [.pointer (some ⟨q,j,none⟩),.pointer (some ⟨bx,0,none⟩)] U (by kernel_rfl) ?_;refine Fj [([0,1,2,3,4,5],6),([7],8)] (fun z=>z.heap[q]? = some (Bl 43 full)∧z.heap[bx]? = some (Bl 2 [.int .i64 x])) [8] Bq (by kernel_rfl) (⟨H.drew.get at0,H.drew.ext.to h7 hn⟩) ?_;refine AE U U ?_;refine BL U (Bf U (Am Ec U (Bw Bs U (fun _ hx=>(by rw [Aj hx.1]; exact hf)) ?_)));refine Bw Bs U (fun _ hx=>(by rw [Aj hx.2]; rfl)) ?_;refine El U U ?_;refine AP ?_;replace H:=H.drew;refine AA U (Ab (BT (⟨H.get at0,H.ext.to h7 hn⟩) (AE U U ?_)));refine Am Ec U (AP (Ci (.int _ _) Bz U U U H at0 (by omega) ?_));rintro w H;refine Ab (B4 U (BJ (CU U U ?_)));exact H
set_option maxRecDepth 20000 in
theorem Abn {q j bx:Nat} {ba x:Int} {full:List Value} (w:World) (h9:w.heap[q]? = some (Bl 43 full)) (hf:full[j]? = some (.int .i64 ba)) (h7:w.heap[bx]? = some (Bl 2 [.int .i64 x])) (hne:bx≠q) (hb:0≤ba∧ba≤4503599627370496) (hx:0≤x∧x≤4503599627370496) :
  Ret Tryz.prog 171 #[.pointer (some ⟨q,j,none⟩),ptr bx] w fun _ w'=>Ctx w [q] w' [(q,Bl 43 (full.set (j+0) (.int .i64 (ba - x))))]:=by
 obtain ⟨w0,rfl⟩:∃ w0,w0=w:=⟨_,rfl⟩;have H:=Ctx.start1 h9;have hn:bx∉[q]:=by rw [List.mem_singleton]; exact hne
 have hj:=Cu hf;refine Az (fn:=Tryz.f171) Tryz.func171 U [.pointer (some ⟨q,j,none⟩),.pointer (some ⟨bx,0,none⟩)] U (by kernel_rfl) ?_;refine Fj [([0,1,2,3,4,5],6),([7],8)] (fun z=>z.heap[q]? = some (Bl 43 full)∧z.heap[bx]? = some (Bl 2 [.int .i64 x])) [8] Bq (by kernel_rfl) (⟨H.drew.get at0,H.drew.ext.to h7 hn⟩) ?_;refine AE U U ?_;refine BL U (Bf U (Am Ec U (Bw Bs U (fun _ hx=>(by rw [Aj hx.1]; exact hf)) ?_)));refine Bw Bs U (fun _ hx=>(by rw [Aj hx.2]; rfl)) ?_;refine Fb U U ?_;refine AP ?_;replace H:=H.drew;refine AA U (Ab (BT (⟨H.get at0,H.ext.to h7 hn⟩) (AE U U ?_)));refine Am Ec U (AP (Ci (.int _ _) Bz U U U H at0 (by omega) ?_));rintro w H;refine Ab (B4 U (BJ (CU U U ?_)));exact H
set_option maxRecDepth 20000 in
theorem Aev {q j bx:Nat} {x:Int} {full:List Value} (w:World) (h9:w.heap[q]? = some (Bl 43 full)) (hj:j+1<full.length) (h7:w.heap[bx]? = some (Bl 2 [.int .i64 x])) (hne:bx≠q) :
  Ret Tryz.prog 174 #[.pointer (some ⟨q,j,none⟩),ptr bx] w fun _ w'=>Ctx w [q] w' [(q,Bl 43 (full.set (j+1) (.int .i64 x)))]:=by
 obtain ⟨w0,rfl⟩:∃ w0,w0=w:=⟨_,rfl⟩;have H:=Ctx.start1 h9;have hn:bx∉[q]:=by rw [List.mem_singleton]; exact hne
 refine Az (fn:=Tryz.f174) Tryz.func174 U [.pointer (some ⟨q,j,none⟩),.pointer (some ⟨bx,0,none⟩)] U (by kernel_rfl) ?_;refine Ax (A2 U (AV Bs U ((H.old (Aj h7 _) hn)) ?_));refine AA U (Ah LO U (Ci (.int _ _) Bz U U U H at0 (by omega) ?_));rintro w H;refine Ab (CU U U ?_);exact H
set_option maxRecDepth 20000 in
theorem Abo {bx b3 b4 bd c:Nat} {a:Option Addr} {acs:List Ac} {k x:Int} (w:World) (h7:w.heap[bx]? = some (Bl 2 [.int .i64 x])) (h3:w.heap[b3]? = some (Bl 99 [ptr bd])) (h4:w.heap[b4]? = some (Bl 3 [.int .i64 k])) (hd:w.heap[bd]? = some (Bl 162 [.slice a acs.length c])) (R:Rd w a 2 CX acs) (hi:inA acs k=true) :
  Ret Tryz.prog 173 #[ptr bx,ptr b3,ptr b4] w fun v w'=>v = .bool (decide (x≤(Ds acs k).ba))∧Ext [] w w':=by
 obtain ⟨w0,rfl⟩:∃ w0,w0=w:=⟨_,rfl⟩;have H:=Ctx.start w0 [];have hin:=GD.1 hi;have hg:=F3 hi;refine Az (fn:=Tryz.f173) Tryz.func173 U [.pointer (some ⟨bx,0,none⟩),.pointer (some ⟨b3,0,none⟩),.pointer (some ⟨b4,0,none⟩)] U (by kernel_rfl) ?_;refine Ae (Ai U (Ab (Aa (Dw (fun x=>x=_) Bq (by kernel_rfl) U ?_))));refine BR Bs U (by rintro _ rfl; exact ((H.drew.old (Aj h7 _) (by simp)))) ?_;refine BR Ip U (by rintro _ rfl; exact ((H.drew.old (Aj h3 _) (by simp)))) ?_;refine AZ U (A3 E5 U (BR Ff U (by rintro _ rfl; exact ((H.drew.old (Aj hd _) (by simp)))) ?_));refine BR BZ U (by rintro _ rfl; exact ((H.drew.old (Aj h4 _) (by simp)))) ?_;refine BE R DA DB U U (by rfl) ?_;refine A3 Ec U (BR Bs U (by rintro _ rfl; exact (((R.ext0 H.drew.ext).fld hg rfl (j:=0) rfl))) ?_);refine Ol U U (MD U U (BQ ?_));rintro _ rfl;replace H:=H.drew
 refine A5 (A9 (v:=(.bool _)) U U U ?_);exact ⟨rfl,H.ext⟩
set_option maxRecDepth 20000 in
set_option maxHeartbeats 1000000 in
theorem Abp {bx b3 bd c:Nat} {a:Option Addr} {acs:List Ac} {x:Int} (w:World) (h3:w.heap[b3]? = some (Bl 99 [ptr bd])) (h7:w.heap[bx]? = some (Bl 2 [.int .i64 x])) (hd:w.heap[bd]? = some (Bl 162 [.slice a acs.length c])) (R:Rd w a 2 CX acs)  (hn:acs.length≤1000:=by omega):
  Ret Tryz.prog 170 #[ptr b3,ptr bx] w fun v w'=>v = .bool (decide ((EX (bas acs++[x])).2=0))∧Ext [] w w':=by
 obtain ⟨w0,rfl⟩:∃ w0,w0=w:=⟨_,rfl⟩;have H:=Ctx.start w0 [];obtain ⟨tt,htt⟩:∃ tt,tt=EX (bas acs++[x]):=⟨_,rfl⟩;rw [← htt];refine Az (fn:=Tryz.f170) Tryz.func170 U [.pointer (some ⟨b3,0,none⟩),.pointer (some ⟨bx,0,none⟩)] U (by kernel_rfl) ?_;refine Ae (Ai U (Ab (Aa (Af7 (.two [0,2] 1 (.one [] 3 (.one [] 4 (.one [] 5 (.one [6,7,8] 9 (.one [] 10 .stop))))) 3 (.one [] 1 (.one [] 4 (.one [] 5 (.one [6,7,8] 9 (.one [] 10 .stop)))))) (fun z=>Ext [] w0 z) Bq (by kernel_rfl) (Ext.drew [] w0) ?_))));refine I3 U U U ?_;refine Bw Ip U (fun _ hx=>(by rw [Aj (hx.to h3 (by simp))]; rfl)) ?_;refine Bw Bs U (fun _ hx=>(by rw [Aj (hx.to h7 (by simp))]; rfl)) ?_;refine AP ?_;replace H:=H.drew;refine ⟨?_,?_⟩
 ·skip
  refine Al Vb (Ki a acs.length c acs _ (H.ext.to hd (by simp)) (R.ext0 H.ext) U) U ?_;rintro v w F;obtain ⟨a3,n3,c3,f3,rfl,O3,hb3⟩:=F.ex;have hl3:=O3.llen;rw [List.length_map,List.length_map] at hl3;replace H:=H.callEnt F.ext hb3 Ge;refine Ab (BS (H.ext) (BP U U ?_));refine AP (Cj _ (.int _ _) AU Bz Ei U (by decide) (by decide) U U U H ?_);rintro b9 w - H;refine Ab (BS (H.ext) (BP U U ?_));refine AP (CF (L:=[]) AU AU Bz Lh Ei U (by decide) U U H O3 U (by simp [Bg]) ?_);rintro a' c' full' w H O;refine Ab (BS (H.ext) (BP U U ?_));refine AP (Al OI (Mb a' (n3+1) c' (bas acs++[x]) _ (OS.rd1 (f:=Dm) (t:=2) (xs:=bas acs++[x]) (by rw [List.map_append]; exact O) (fun x hx=>H.blk x (List.mem_append_right [] hx))) (by unfold bas; rw [List.length_append,List.length_map]; show acs.length+1=_; omega)) U ?_);rintro v w ⟨rfl,rfl⟩;rw [← htt]
  refine Ab (BS (H.ext) (BP U U ?_));refine DF U (Bu U U (Bu U U (AP (Af U (Ab (BS (H.ext) (BP U U ?_)))))));refine AP (Af U (Ab (BS (H.ext) (Eb ?_))));refine Ae (Ad U (Ct U U (Ai U (Ab (Aa (A5 (A9 (v:=(.bool _)) U U U ?_)))))));exact ⟨rfl,H.ext⟩
 ·skip
  refine Cj _ (.int _ _) AU Bz Ei U (by decide) (by decide) U U U H ?_;rintro b9 w - H;refine Ab (BS (H.ext) (BP U U ?_));refine AP (Al Vb (Ki a acs.length c acs _ (H.ext.to hd (by simp)) (R.ext0 H.ext) U) U ?_);rintro v w F;obtain ⟨a3,n3,c3,f3,rfl,O3,hb3⟩:=F.ex;have hl3:=O3.llen;rw [List.length_map,List.length_map] at hl3;replace H:=H.callEnt F.ext hb3 Ge;refine Ab (BS (H.ext) (BP U U ?_));refine AP (CF (L:=[]) AU AU Bz Lh Ei U (by decide) U U H O3 U (by simp [Bg]) ?_);rintro a' c' full' w H O;refine Ab (BS (H.ext) (BP U U ?_));refine AP (Al OI (Mb a' (n3+1) c' (bas acs++[x]) _ (OS.rd1 (f:=Dm) (t:=2) (xs:=bas acs++[x]) (by rw [List.map_append]; exact O) (fun x hx=>H.blk x (List.mem_append_right [] hx))) (by unfold bas; rw [List.length_append,List.length_map]; show acs.length+1=_; omega)) U ?_);rintro v w ⟨rfl,rfl⟩;rw [← htt]
  refine Ab (BS (H.ext) (BP U U ?_));refine DF U (Bu U U (Bu U U (AP (Af U (Ab (BS (H.ext) (BP U U ?_)))))));refine AP (Af U (Ab (BS (H.ext) (Eb ?_))));refine Ae (Ad U (Ct U U (Ai U (Ab (Aa (A5 (A9 (v:=(.bool _)) U U U ?_)))))));exact ⟨rfl,H.ext⟩
end Go.Proofs.YtdagmpmdcgedcaaGreat
namespace Go.Proofs.YtdagmpmdcgedcaaGreat
open Go.GV
attribute [local irreducible] AD W Wq Wt
abbrev AcB (bd:Nat) (a:Option Addr) (n c:Nat) (w:World):Prop:=w.heap[bd]? = some (Bl 162 [.slice a n c])
theorem AcsAt.back {w0 w w':World} {a:Option Addr} {n c:Nat} {full:List Value} {acs:List Ac} (h:AcsAt w w' a n c full acs) (hx:Ext [] w0 w):AcsAt w0 w' a n c full acs:=by
 obtain ⟨f,O,hb,he⟩:=h;exact ⟨f,O,hb,(hx.mono (by simp)).trans he⟩
theorem AcsAt.of {w w':World} {a:Option Addr} {n c:Nat} {full:List Value} {acs acs':List Ac} (h:AcsAt w w' a n c full acs) (he:acs=acs'):AcsAt w w' a n c full acs':=he ▸ h
abbrev WR (b3 b5:Nat) (acs:List Ac) (x:Int):List Qk:=[⟨1,169,[ptr b5],decide (0<x) && Df x⟩,⟨13,170,[ptr b3,ptr b5],decide ((EX (bas acs++[x])).2=0)⟩]
abbrev WS (b3 b4 b5:Nat) (acs:List Ac) (k x:Int):List Qk:=[⟨1,172,[ptr b5],decide (0<x) && Df x⟩,⟨12,173,[ptr b5,ptr b3,ptr b4],decide (x≤(Ds acs k).ba)⟩]
abbrev rsvQ (b5:Nat) (x:Int):List Qk:=[⟨1,175,[ptr b5],Df x⟩]
theorem Rg {b3 b5:Nat} {acs:List Ac} {k x:Int}:IC acs k (WR b3 b5 acs x)=Fu acs k x:=by
 unfold IC Fu
 cases inA acs k with
 | false=>rfl
 | true =>
  rw [if_neg (by decide),if_neg (by decide)];show (if (decide (0<x) && Df x)=false then (1:Int) else if decide ((EX (bas acs++[x])).2=0)=false then 13 else 0)=_
  by_cases h:(EX (bas acs++[x])).2=0
  ·rw [if_neg (show ¬ (decide ((EX (bas acs++[x])).2=0)=false) by simpa using h),if_neg (show ¬ (EX (bas acs++[x])).2≠0 from fun h2=>h2 h)]
  ·rw [if_pos (show decide ((EX (bas acs++[x])).2=0)=false by simpa using h),if_pos h]
theorem Rh {b3 b4 b5:Nat} {acs:List Ac} {k x:Int}:IC acs k (WS b3 b4 b5 acs k x)=EZ acs k x:=by
 unfold IC EZ
 cases inA acs k with
 | false=>rfl
 | true =>
  rw [if_neg (by decide),if_neg (by decide)];show (if (decide (0<x) && Df x)=false then (1:Int) else if decide (x≤(Ds acs k).ba)=false then 12 else 0)=_
  by_cases h:x≤(Ds acs k).ba
  ·rw [if_neg (show ¬ (decide (x≤(Ds acs k).ba)=false) by simpa using h),if_neg (show ¬ (Ds acs k).ba<x by omega)]
  ·rw [if_pos (show decide (x≤(Ds acs k).ba)=false by simpa using h),if_pos (show (Ds acs k).ba<x by omega)]
theorem Abq {b5:Nat} {acs:List Ac} {k x:Int}:IC acs k (rsvQ b5 x)=Mp acs k x:=rfl
section
variable {bd c:Nat} {a:Option Addr} {full:List Value} {acs:List Ac} {w:World}
theorem Nc {q:Nat} {k:Int} {w':World} (O:OS (some ⟨q,0,none⟩) acs.length c 2 full (acs.flatMap CX)) (h9:w'.heap[q]? = some (Bl 43 full)) (hi:inA acs k=true) :
  full[0+k.toNat*2]? = some (.int .i64 (Ds acs k).ba)∧0+k.toNat*2+1<full.length:=by
 have R:Rd w' (some ⟨q,0,none⟩) 2 CX acs:=OS.rd (t:=43) O (fun y hy=>by rw [List.mem_singleton.1 hy]; exact h9) (fun _ _=>rfl) (by omega);have h1:w'.cell? ⟨q,0+k.toNat*2+0,none⟩=some (.int .i64 (Ds acs k).ba):=R.fld (F3 hi) rfl (j:=0) rfl;have h2:w'.cell? ⟨q,0+k.toNat*2+1,none⟩=some (.int .i64 (Ds acs k).re):=R.fld (F3 hi) rfl (j:=1) rfl;rw [Aj h9] at h1 h2;exact ⟨h1,Cu h2⟩
theorem Yj {b3 b5 b14:Nat} {k x:Int} (hd:AcB bd a acs.length c w) (O:OS a acs.length c 2 full (acs.flatMap CX)) (hb:∀ x∈ent a 43 full,w.heap[x.1]? = some x.2∧x.1≠b5) (hac:Eu acs=0)
  (h3:w.heap[b3]? = some (Bl 99 [ptr bd])) (h5:w.heap[b5]? = some (Bl 2 [.int .i64 x])) (h14:w.heap[b14]? = some (Bl 223 ((WR b3 b5 acs x).flatMap Nb))) :
  Ret Tryz.prog 167 #[ptr bd,.int .i64 k,.func (.func 168) #[] [ptr b5].toArray,.slice (some ⟨b14,0,none⟩) 2 2] w fun v w'=>v = .int .i64 (Fu acs k x)∧AcsAt w w' a acs.length c full (EG acs k x):=by
 have hn16:=(Cd.1 hac).1;have R:Rd w a 2 CX acs:=OS.rd O (fun y hy=>(hb y hy).1) (fun _ _=>rfl) (by omega);refine Ret.mono (P8 (qs:=WR b3 b5 acs x) (e:=⟨(Ds acs k).ba+x,(Ds acs k).re⟩) w hd O (fun y hy=>(hb y hy).1) (Rd.of_bl h14 (List.append_nil _).symm fun _ _=>rfl) (show (2:Nat)≤1000 by decide) (fun q hq=>?_) Ag5 fun q w' hqa hi hC hx=>?_) fun v w' h=>?_
 ·rcases List.mem_cons.1 hq with rfl | hq
  ·exact ⟨Ag6,(show (1:Int)≠0 by decide),fun w' hx=>Abk w' (hx.to h5 (by simp))⟩
  ·rw [List.mem_singleton.1 hq];exact ⟨Ag7,(show (13:Int)≠0 by decide),fun w' hx=>Abp w' (hx.to h3 (by simp)) (hx.to h5 (by simp)) (hx.to hd (by simp)) (R.ext0 hx)⟩
 ·subst hqa;obtain ⟨h1,h2⟩:=hb (q,Bl 43 full) (List.mem_singleton.2 rfl);have h9:w'.heap[q]? = _:=hx.to h1 (by simp);have hg:=Je hac hi;have hC2:Fu acs k x=0:=by rw [← Rg (b3:=b3) (b5:=b5)]; unfold IC; rw [if_neg (by rw [hi]; decide)]; exact hC
  rcases Ia acs k x with ⟨hc,-⟩ | ⟨-,-,h0,hm,-⟩
  ·exact absurd hC2 hc
  ·refine Ret.mono (Abm w' h9 (Nc O h9 hi).1 (hx.to h5 (by simp)) (fun h=>h2 h.symm) ⟨hg.1.1,hg.1.2⟩ ⟨by omega,(C4.1 hm).2⟩) fun _ w'' H2=>⟨_,?_,H2⟩;rw [show 0+k.toNat*2+0=k.toNat*2+0 by omega];exact OS.setf O (y:=⟨(Ds acs k).ba+x,(Ds acs k).re⟩) (j:=0) (v := .int .i64 ((Ds acs k).ba+x)) (fun _=>rfl) (F3 hi) (by decide) U
 ·rw [Rg] at h;exact ⟨h.1,h.2.of (by unfold EG; rfl)⟩
theorem Yk {b3 b4 b5 b14:Nat} {k x:Int} (hd:AcB bd a acs.length c w) (O:OS a acs.length c 2 full (acs.flatMap CX)) (hb:∀ x∈ent a 43 full,w.heap[x.1]? = some x.2∧x.1≠b5) (hac:Eu acs=0)
  (h3:w.heap[b3]? = some (Bl 99 [ptr bd])) (h4:w.heap[b4]? = some (Bl 3 [.int .i64 k])) (h5:w.heap[b5]? = some (Bl 2 [.int .i64 x])) (h14:w.heap[b14]? = some (Bl 223 ((WS b3 b4 b5 acs k x).flatMap Nb))) :
  Ret Tryz.prog 167 #[ptr bd,.int .i64 k,.func (.func 171) #[] [ptr b5].toArray,.slice (some ⟨b14,0,none⟩) 2 2] w fun v w'=>v = .int .i64 (EZ acs k x)∧AcsAt w w' a acs.length c full (EB acs k x):=by
 have hn16:=(Cd.1 hac).1;have R:Rd w a 2 CX acs:=OS.rd O (fun y hy=>(hb y hy).1) (fun _ _=>rfl) (by omega)
 cases hi0:inA acs k with
 | false =>
  refine Ret.mono (Abj w hd hi0) fun v w' h=>?_;have hc:EZ acs k x=10:=by unfold EZ; rw [if_pos hi0]
  refine ⟨by rw [hc]; exact h.1,full,?_,fun y hy=>h.2.to (hb y hy).1 (by simp),h.2.mono (by simp)⟩;unfold EB;rw [if_neg (by rw [hc]; decide)];exact O
 | true =>
  refine Ret.mono (P8 (qs:=WS b3 b4 b5 acs k x) (e:=⟨(Ds acs k).ba - x,(Ds acs k).re⟩) w hd O (fun y hy=>(hb y hy).1) (Rd.of_bl h14 (List.append_nil _).symm fun _ _=>rfl) (show (2:Nat)≤1000 by decide) (fun q hq=>?_) Ag8 fun q w' hqa hi hC hx=>?_) fun v w' h=>?_
  ·rcases List.mem_cons.1 hq with rfl | hq
   ·exact ⟨Ag9,(show (1:Int)≠0 by decide),fun w' hx=>Abl w' (hx.to h5 (by simp))⟩
   ·rw [List.mem_singleton.1 hq];exact ⟨Aha,(show (12:Int)≠0 by decide),fun w' hx=>Abo w' (hx.to h5 (by simp)) (hx.to h3 (by simp)) (hx.to h4 (by simp)) (hx.to hd (by simp)) (R.ext0 hx) hi0⟩
  ·subst hqa;obtain ⟨h1,h2⟩:=hb (q,Bl 43 full) (List.mem_singleton.2 rfl);have h9:w'.heap[q]? = _:=hx.to h1 (by simp);have hg:=Je hac hi;have hC2:EZ acs k x=0:=by rw [← Rh (b3:=b3) (b4:=b4) (b5:=b5)]; unfold IC; rw [if_neg (by rw [hi]; decide)]; exact hC
   rcases Ib acs k x with ⟨hc,-⟩ | ⟨-,-,h0,hm,-⟩
   ·exact absurd hC2 hc
   ·refine Ret.mono (Abn w' h9 (Nc O h9 hi).1 (hx.to h5 (by simp)) (fun h=>h2 h.symm) ⟨hg.1.1,hg.1.2⟩ ⟨by omega,(C4.1 hm).2⟩) fun _ w'' H2=>⟨_,?_,H2⟩;rw [show 0+k.toNat*2+0=k.toNat*2+0 by omega];exact OS.setf O (y:=⟨(Ds acs k).ba - x,(Ds acs k).re⟩) (j:=0) (v := .int .i64 ((Ds acs k).ba - x)) (fun _=>rfl) (F3 hi) (by decide) U
  ·rw [Rh] at h;exact ⟨h.1,h.2.of (by unfold EB; rfl)⟩
theorem Abr {b5 b14:Nat} {k x:Int} (hd:AcB bd a acs.length c w) (O:OS a acs.length c 2 full (acs.flatMap CX)) (hb:∀ x∈ent a 43 full,w.heap[x.1]? = some x.2∧x.1≠b5) (hac:Eu acs=0)
  (h5:w.heap[b5]? = some (Bl 2 [.int .i64 x])) (h14:w.heap[b14]? = some (Bl 223 ((rsvQ b5 x).flatMap Nb))) :
  Ret Tryz.prog 167 #[ptr bd,.int .i64 k,.func (.func 174) #[] [ptr b5].toArray,.slice (some ⟨b14,0,none⟩) 1 1] w fun v w'=>v = .int .i64 (Mp acs k x)∧AcsAt w w' a acs.length c full (GX acs k x):=by
 have hn16:=(Cd.1 hac).1;refine Ret.mono (P8 (qs:=rsvQ b5 x) (e:=⟨(Ds acs k).ba,x⟩) w hd O (fun y hy=>(hb y hy).1) (Rd.of_bl h14 (List.append_nil _).symm fun _ _=>rfl) (show (1:Nat)≤1000 by decide) (fun q hq=>?_) Ahb fun q w' hqa hi hC hx=>?_) fun v w' h=>?_
 ·rw [List.mem_singleton.1 hq];exact ⟨Ahc,(show (1:Int)≠0 by decide),fun w' hx=>Aeu w' (hx.to h5 (by simp))⟩
 ·subst hqa;obtain ⟨h1,h2⟩:=hb (q,Bl 43 full) (List.mem_singleton.2 rfl);have h9:w'.heap[q]? = _:=hx.to h1 (by simp);refine Ret.mono (Aev w' h9 (Nc O h9 hi).2 (hx.to h5 (by simp)) (fun h=>h2 h.symm)) fun _ w'' H2=>⟨_,?_,H2⟩;rw [show 0+k.toNat*2+1=k.toNat*2+1 by omega];exact OS.setf O (y:=⟨(Ds acs k).ba,x⟩) (j:=1) (v := .int .i64 x) (fun _=>rfl) (F3 hi) (by decide) U
 ·rw [Abq] at h;exact ⟨h.1,h.2.of (by unfold GX; rfl)⟩
end
set_option maxRecDepth 20000 in
set_option maxHeartbeats 1000000 in
theorem Abs {bd c:Nat} {a:Option Addr} {full:List Value} {acs:List Ac} {k x:Int} (w:World) (hd:AcB bd a acs.length c w) (O:OS a acs.length c 2 full (acs.flatMap CX)) (hb:∀ x∈ent a 43 full,w.heap[x.1]? = some x.2) (hac:Eu acs=0) :
  Ret Tryz.prog 104 #[ptr bd,.int .i64 k,.int .i64 x] w fun v w'=>v = .int .i64 (Fu acs k x)∧AcsAt w w' a acs.length c full (EG acs k x):=by
 obtain ⟨w0,rfl⟩:∃ w0,w0=w:=⟨_,rfl⟩;have H:=Ctx.start w0 [];refine Az (fn:=Tryz.f104) Tryz.func104 U [.pointer (some ⟨bd,0,none⟩),.int .i64 k,.int .i64 x] U (by kernel_rfl) ?_;refine Ae (Bx _ (.pointer _) U U H ?_);rintro b3 w - H;refine Bx _ (.int _ _) U U H ?_;rintro b5 w - H;refine Af U (Ab (Aa (Ae (AH Ip U H at1 U (Ad U (Ck [ptr b5] U (Ck [ptr b5] U (B6 (Nb ⟨1,169,[ptr b5],true⟩) OW Jq (by kernel_rfl) ?_))))))));refine Ck [ptr b3,ptr b5] U (B6 (Nb ⟨13,170,[ptr b3,ptr b5],true⟩) OW Jq (by kernel_rfl) ?_);refine DE ((WR b3 b5 acs x).flatMap Nb) ON MN Jq (by decide) (by decide) (by kernel_rfl) H ?_;rintro b14 w - H
 refine Al Vd (Yj (H.ext.to hd (by simp)) O (fun y hy=>⟨H.ext.to (hb y hy) (by simp),fun hne=>by have h1:=Bb (hb y hy); rw [hne] at h1; have h2:=(H.own _ (List.mem_of_getElem? at1)).elim (fun h=>by cases h) id; dsimp only at h2; omega⟩) hac (H.get at2) (H.get at1) (H.get at0)) U ?_;rintro v w2 ⟨rfl,A⟩;replace A:=A.back H.ext;refine Af U (Ab (Aa (A5 (A9 (v:=(.int _ _)) U U U ?_))));exact ⟨rfl,A⟩
set_option maxRecDepth 20000 in
set_option maxHeartbeats 1000000 in
theorem Abt {bd c:Nat} {a:Option Addr} {full:List Value} {acs:List Ac} {k x:Int} (w:World) (hd:AcB bd a acs.length c w) (O:OS a acs.length c 2 full (acs.flatMap CX)) (hb:∀ x∈ent a 43 full,w.heap[x.1]? = some x.2) (hac:Eu acs=0) :
  Ret Tryz.prog 105 #[ptr bd,.int .i64 k,.int .i64 x] w fun v w'=>v = .int .i64 (EZ acs k x)∧AcsAt w w' a acs.length c full (EB acs k x):=by
 obtain ⟨w0,rfl⟩:∃ w0,w0=w:=⟨_,rfl⟩;have H:=Ctx.start w0 [];refine Az (fn:=Tryz.f105) Tryz.func105 U [.pointer (some ⟨bd,0,none⟩),.int .i64 k,.int .i64 x] U (by kernel_rfl) ?_;refine Ae (Bx _ (.pointer _) U U H ?_);rintro b3 w - H;refine Bx _ (.int _ _) U U H ?_;rintro b4 w - H;refine Bx _ (.int _ _) U U H ?_;rintro b5 w - H;refine Af U (Ab (Aa (Ae (AH Ip U H at2 U (AH BZ U H at1 U (Ck [ptr b5] U (Ck [ptr b5] U (B6 (Nb ⟨1,172,[ptr b5],true⟩) OW Jq (by kernel_rfl) ?_))))))));refine Ck [ptr b5,ptr b3,ptr b4] U (B6 (Nb ⟨12,173,[ptr b5,ptr b3,ptr b4],true⟩) OW Jq (by kernel_rfl) ?_);refine DE ((WS b3 b4 b5 acs k x).flatMap Nb) ON MN Jq (by decide) (by decide) (by kernel_rfl) H ?_;rintro b14 w - H
 refine Al Vd (Yk (H.ext.to hd (by simp)) O (fun y hy=>⟨H.ext.to (hb y hy) (by simp),fun hne=>by have h1:=Bb (hb y hy); rw [hne] at h1; have h2:=(H.own _ (List.mem_of_getElem? at1)).elim (fun h=>by cases h) id; dsimp only at h2; omega⟩) hac (H.get at3) (H.get at2) (H.get at1) (H.get at0)) U ?_;rintro v w2 ⟨rfl,A⟩;replace A:=A.back H.ext;refine Af U (Ab (Aa (A5 (A9 (v:=(.int _ _)) U U U ?_))));exact ⟨rfl,A⟩
set_option maxRecDepth 20000 in
set_option maxHeartbeats 1000000 in
theorem Aew {bd c:Nat} {a:Option Addr} {full:List Value} {acs:List Ac} {k x:Int} (w:World) (hd:AcB bd a acs.length c w) (O:OS a acs.length c 2 full (acs.flatMap CX)) (hb:∀ x∈ent a 43 full,w.heap[x.1]? = some x.2) (hac:Eu acs=0) :
  Ret Tryz.prog 106 #[ptr bd,.int .i64 k,.int .i64 x] w fun v w'=>v = .int .i64 (Mp acs k x)∧AcsAt w w' a acs.length c full (GX acs k x):=by
 obtain ⟨w0,rfl⟩:∃ w0,w0=w:=⟨_,rfl⟩;have H:=Ctx.start w0 [];refine Az (fn:=Tryz.f106) Tryz.func106 U [.pointer (some ⟨bd,0,none⟩),.int .i64 k,.int .i64 x] U (by kernel_rfl) ?_;refine Ae (Bx _ (.int _ _) U U H ?_);rintro b5 w - H;refine Af U (Ab (Aa (Ae (A2 U (Ad U (Ck [ptr b5] U (Ck [ptr b5] U (B6 (Nb ⟨1,175,[ptr b5],true⟩) OW Jq (by kernel_rfl) ?_))))))));refine DE ((rsvQ b5 x).flatMap Nb) ON MN Jq (by decide) (by decide) (by kernel_rfl) H ?_;rintro b14 w - H;refine Al Vd (Abr (H.ext.to hd (by simp)) O (fun y hy=>⟨H.ext.to (hb y hy) (by simp),fun hne=>by have h1:=Bb (hb y hy); rw [hne] at h1; have h2:=(H.own _ (List.mem_of_getElem? at1)).elim (fun h=>by cases h) id; dsimp only at h2; omega⟩) hac (H.get at1) (H.get at0)) U ?_;rintro v w2 ⟨rfl,A⟩;replace A:=A.back H.ext;refine Af U (Ab (Aa (A5 (A9 (v:=(.int _ _)) U U U ?_))));exact ⟨rfl,A⟩
end Go.Proofs.YtdagmpmdcgedcaaGreat
namespace Go.Proofs.YtdagmpmdcgedcaaGreat
open Go.GV
attribute [local irreducible] AD W Wq Wt
def Ut:List Du→Int→Du→List Du
 | [],_,_=>[]
 | d::ds,k,e=>if d.id=k then e::ds else d::Ut ds k e
def VJ:List Du→Int→List Du
 | [],_=>[]
 | d::ds,k=>if d.id=k then ds else d::VJ ds k
theorem Abu {ds:List Du} {k:Int} {d e:Du} (h:CQ ds k=some d) (he:e.id=k):LA (dm ds) k (Gm e)=dm (Ut ds k e):=by
 induction ds with
 | nil=>cases h
 | cons y ds ih =>
  unfold CQ at h;rw [List.find?_cons] at h
  by_cases c:y.id=k
  ·unfold Ut;rw [if_pos c];show (if y.id=k then (k,_)::dm ds else _)=_;rw [if_pos c,← he]; rfl
  ·rw [show (y.id == k)=false by simpa using c] at h;unfold Ut;rw [if_neg c];show (if y.id=k then _ else (y.id,Gm y)::LA (dm ds) k _)=_;rw [if_neg c,ih h]; rfl
theorem Abv {ds:List Du} {k:Int} {d:Du} (h:CQ ds k=some d):Lc (dm ds) k=dm (VJ ds k):=by
 induction ds with
 | nil=>cases h
 | cons y ds ih =>
  unfold CQ at h;rw [List.find?_cons] at h
  by_cases c:y.id=k
  ·unfold VJ;rw [if_pos c];show (if y.id=k then dm ds else _)=_;rw [if_pos c]
  ·rw [show (y.id == k)=false by simpa using c] at h;unfold VJ;rw [if_neg c];show (if y.id=k then _ else (y.id,Gm y)::Lc (dm ds) k)=_;rw [if_neg c,ih h]; rfl
theorem Uu {k:Int} {b:Bool}:∀ {ds:List Du} {d:Du},(ds.map Du.id).Nodup→CQ ds k=some d→Ut ds k { d with held:=b }=ds.map fun x=>if x.id=k then { x with held:=b } else x
 | y::ds,d,hn,h=>by
  rw [List.map_cons,List.nodup_cons] at hn;unfold CQ at h;rw [List.find?_cons] at h
  by_cases c:y.id=k
  ·rw [show (y.id == k)=true by simpa using c] at h
   injection h with h
   subst h;unfold Ut;rw [if_pos c,List.map_cons,if_pos c]
   congr 1
   refine (List.map_id ds).symm.trans (List.map_congr_left fun x hx=>?_);rw [if_neg fun hxk=>hn.1 (by rw [c,← hxk]; exact List.mem_map_of_mem hx)];rfl
  ·rw [show (y.id == k)=false by simpa using c] at h;unfold Ut;rw [if_neg c,List.map_cons,if_neg c,Uu hn.2 h]
theorem N2 {k:Int}:∀ {ds:List Du},(ds.map Du.id).Nodup→VJ ds k=ds.filter fun x => !decide (x.id=k)
 | [],_=>rfl
 | y::ds,hn=>by
  rw [List.map_cons,List.nodup_cons] at hn;unfold VJ
  by_cases c:y.id=k
  ·rw [if_pos c,List.filter_cons,if_neg (by simpa using c)];refine (List.filter_eq_self.2 fun x hx=>?_).symm;have:¬ x.id=k:=fun hxk=>hn.1 (by rw [c,← hxk]; exact List.mem_map_of_mem hx)
   simpa using this
  ·rw [if_neg c,List.filter_cons,if_pos (by simpa using c),N2 hn.2]
def trnD (ds:List Du) (k:Int) (c:Int) (e:Du):List Du:=if c≠0 then ds else if e.am=0 then VJ ds k else Ut ds k e
set_option maxRecDepth 20000 in
theorem Uv {bd b:Nat} {nx k code:Int} {o:Obj} {ds:List Du} {d e:Du} {fid:FuncId} {cl:List Value} (w:World) (hd:w.heap[bd]? = some (Bl 165 (DU b nx))) (hb:w.heap[b]? = some o) (hM:Db .u64 (dm ds) o) (hbd:bd≠b) (hf:CQ ds k=some d) (he:e.id=k) (hfc:Av Tryz.prog fid=true)
  (hcl:∀ (b7:Nat) (w':World),w.heap.size≤b7→Ext [b] w w'→w'.heap[b7]? = some (Bl 67 (CT d))→Ret Tryz.prog fid (ptr b7::cl).toArray w' fun v w''=>v = .int .i64 code∧Ctx w' [b7] w'' [(b7,Bl 67 (CT e))]) :
  Ret Tryz.prog 177 #[ptr bd,.int .u64 k,.func (.func fid) #[] cl.toArray] w fun v w'=>v = .int .i64 code∧∃ o',Db .u64 (dm (trnD ds k code e)) o'∧Ctx w [b] w' [(b,o')]:=by
 obtain ⟨w0,rfl⟩:∃ w0,w0=w:=⟨_,rfl⟩;have H:=Ctx.start1 hb;have hmg:Eo (dm ds) k=some (Gm d):=by rw [Hx,hf]; rfl
 unfold trnD;refine Az (fn:=Tryz.f177) Tryz.func177 U [.pointer (some ⟨bd,0,none⟩),.int .u64 k,.func (.func fid) #[] cl.toArray] U (by kernel_rfl) ?_;refine Ae (Af U (Ab (Aa (Au (Ae (A2 U (Cw I6 U ?_)))))));refine Ab (Aa (Ao _ U ?_ ?_))
 ·intro h0;cases h0
 ·intro h0;refine Ap (Aa (Ae (A2 U (AA U (Ah DP U (AV Fo U ((H.old (Aj hd _) (by rw [List.mem_singleton]; exact hbd))) ?_))))));refine Ad U (GK U F8 F5 OY U U H at0 hM ?_);rw [hmg];rw [Option.getD_some,Option.isSome_some];refine CA U (AS U U (AS U U (Ba Ex H ?_)));rintro b7 w - H;refine Bm Cg U U U (by exact Dg _) H at0 U ?_;rintro w H;refine Ai U (Ab (Aa (Au (Ae (A7 U (BF U (Ab (Aa (Ao _ U ?_ ?_)))))))))
  ·intro h1;replace h1:=BG h1;cases h1
  ·intro h1;replace h1:=BH h1;refine Ap (Aa (Ae (Dq U (.func _ _ _) U ?_)));have hb7:w0.heap.size≤b7:=(H.own _ (List.mem_cons_self ..)).elim (fun h=>by have h8:=H.ne at0 at1 (by decide); exact absurd (List.mem_singleton.1 h) h8) id;refine Gd U hfc (hcl b7 _ hb7 H.ext (H.get at0)) U ?_;rintro v w ⟨rfl,H2⟩;replace H:=Ctx.back (L1:=[_]) (L2:=[_]) H H2;refine Af U (Ab (Aa (Au (A0 (Ae (Ad U (C0 U U (Ai U (Ab (Aa (Ao _ U ?_ ?_)))))))))))
   ·intro h2;replace h2:=C7 h2;refine Ap (A6 (Aa (Ae (Ad U (Af U (Ab (Aa (A5 (A9 (v:=(.int _ _)) U U U ?_)))))))));rw [if_pos h2];exact ⟨rfl,o,hM,H.tail⟩
   ·intro h2;replace h2:=C8 h2;rw [if_neg (by omega)];refine Ae (Ah EM U (AH Bs U H at0 U (Ct U U (Ai U (Ab (Aa (Ao _ U ?_ ?_)))))))
    ·intro h3;replace h3:=AM h3;refine Ax (A2 U (AA U (Ah DP U (AV Fo U ((H.old (Aj hd _) (by rw [List.mem_singleton]; exact hbd))) ?_))));refine Ad U (MG U F8 F5 U U H at1 hM ?_);rintro o2 w hM2 H;refine Ab (A6 (Aa (Ae (Ad U (Af U (Ab (Aa (A5 (A9 (v:=(.int _ _)) U U U ?_)))))))));rw [if_pos h3];exact ⟨rfl,o2,by rw [← Abv hf]; exact hM2,H.tail⟩
    ·intro h3;replace h3:=AN h3;refine FN 6 Bq (by kernel_rfl) U U ?_;refine B5 U (AZ U (A3 DP U (BR Fo U (by rintro _ rfl; exact ((H.old (Aj hd _) (by rw [List.mem_singleton]; exact hbd)))) ?_)));refine AY U (Oj U Fq Cg U (by rintro _ rfl; exact H.drew) at0 U ?_);refine BQ ?_;replace H:=H.drew;refine Jk (Gm e) U F8 F5 U U U H at1 hM ?_;rintro o2 w hM2 H;refine Ab (A6 (Aa (Ae (Ad U (Af U (Ab (Aa (A5 (A9 (v:=(.int _ _)) U U U ?_)))))))));rw [if_neg h3];exact ⟨rfl,o2,by rw [← Abu hf he]; exact hM2,H.tail⟩
theorem P9 {bd b:Nat} {nx k:Int} {o:Obj} {ds:List Du} {fid:FuncId} {cl:List Value} (w:World) (hd:w.heap[bd]? = some (Bl 165 (DU b nx))) (hb:w.heap[b]? = some o) (hM:Db .u64 (dm ds) o) (hbd:bd≠b) (hf:CQ ds k=none) :
  Ret Tryz.prog 177 #[ptr bd,.int .u64 k,.func (.func fid) #[] cl.toArray] w fun v w'=>v = .int .i64 11∧∃ o',Db .u64 (dm ds) o'∧Ctx w [b] w' [(b,o')]:=by
 obtain ⟨w0,rfl⟩:∃ w0,w0=w:=⟨_,rfl⟩;have H:=Ctx.start1 hb;have hmg:Eo (dm ds) k=none:=by rw [Hx,hf]; rfl
 refine Az (fn:=Tryz.f177) Tryz.func177 U [.pointer (some ⟨bd,0,none⟩),.int .u64 k,.func (.func fid) #[] cl.toArray] U (by kernel_rfl) ?_;refine Ae (Af U (Ab (Aa (Au (Ae (A2 U (Cw I6 U ?_)))))));refine Ab (Aa (Ao _ U ?_ ?_))
 ·intro h0;cases h0
 ·intro h0;refine Ap (Aa (Ae (A2 U (AA U (Ah DP U (AV Fo U ((H.old (Aj hd _) (by rw [List.mem_singleton]; exact hbd))) ?_))))));refine Ad U (GK U F8 F5 OY U U H at0 hM ?_);rw [hmg];rw [Option.getD_none,Option.isSome_none];refine CA U (AS U U (AS U U (Ba Ex H ?_)));rintro b7 w - H;refine Bm Cg U U U (by exact Dg d00) H at0 U ?_;rintro w H;refine Ai U (Ab (Aa (Au (Ae (A7 U (BF U (Ab (Aa (Ao _ U ?_ ?_)))))))))
  ·intro h1;replace h1:=BG h1;refine Ae (Af U (Ab (Aa (A5 (Aq (A9 (v:=(.int _ _)) U U U ?_))))));exact ⟨rfl,o,hM,H.tail⟩
  ·intro h1;replace h1:=BH h1;cases h1
end Go.Proofs.YtdagmpmdcgedcaaGreat
namespace Go.Proofs.YtdagmpmdcgedcaaGreat
open Go.GV
attribute [local irreducible] AD W Wq Wt
theorem Akb {P:Program} {ops rest:List Oper} {e:Env} {dst:Option Tmp} {ty:TypeId} {pos:String} {af:Array Edge} {g:Option (Nat × Bool)} {C:World→Prop} {K:Env→Prop} {t t2:TypeId} {x y:Operand} {a b:Bool} (ht:P.underlying t=some .bool) (hg:AR ⟨dst,.binOp .eql t x y t2,ty,pos,af,g⟩ ops e=true) (hx:ev e x = .bool a) (hy:ev e y = .bool b)
  (h:Wq P ops C K rest (put e dst (.bool (a == b)))):Wq P ops C K (⟨dst,.binOp .eql t x y t2,ty,pos,af,g⟩::rest) e :=
 Ef hg (fun w _=>by
  have hq:eqGuard .eql t x y (.bool a) (.bool b)=pure ():=rfl;have he:∀ d w,(Op.equalIn (d+1) t (.bool a) (.bool b)).run P w = .ok (a == b) w:=fun d w=>by simp [Op.equalIn,Bd ht]
  simp only [execOp,hx,hy,hq,Sem.run_bind,Sem.run_pure,Result.andThen_ok,binOp,Op.equal,Op.maxDepth,he 9999]) h
theorem Ri {ds:List Du} {nx:Int} (h:ofC ds nx=0):(ds.map Du.id).Nodup:=(GF h).2.imp fun h=>Int.ne_of_lt h
theorem Abw {b7 bi:Nat} {d:Du} {b:Bool} (w:World) (h7:w.heap[b7]? = some (Bl 67 (CT d))) (hi:w.heap[bi]? = some (Bl 4 [.bool b])) (hne:bi≠b7) :
  Ret Tryz.prog 206 #[ptr b7,ptr bi] w fun v w'=>v = .int .i64 (if d.held=b then 14 else 0)∧Ctx w [b7] w' [(b7,Bl 67 (CT (if d.held=b then d else { d with held:=b })))]:=by
 obtain ⟨w0,rfl⟩:∃ w0,w0=w:=⟨_,rfl⟩;have H:=Ctx.start1 h7;have hn:bi∉[b7]:=by rw [List.mem_singleton]; exact hne
 refine Az (fn:=Tryz.f206) Tryz.func206 U [.pointer (some ⟨b7,0,none⟩),.pointer (some ⟨bi,0,none⟩)] U (by kernel_rfl) ?_;refine Ae (Af U (Ab (Aa (Au (Dw (fun x=>x=_) Bq (by kernel_rfl) U ?_)))));refine B5 U (AZ U (A3 LR U (Cc KG U (by rintro _ rfl; exact H.drew) at0 U ?_)));refine BR KG U (by rintro _ rfl; exact ((H.old (Aj hi _) hn))) ?_;refine Akb un_4 U U U ?_;refine BQ ?_;rintro _ rfl;replace H:=H.drew;refine Ao _ U ?_ ?_
 ·intro h1;have h1':d.held=b:=by simpa using h1
  refine Ae (Af U (Ab (Aa (A5 (Aq (A9 (v:=(.int _ _)) U U U ?_))))));rw [if_pos h1',if_pos h1'];exact ⟨rfl,H⟩
 ·intro h1;have h1':¬ d.held=b:=by simpa using h1
  refine Ap (Aa (Ae (A2 U (AV KG U ((H.old (Aj hi _) hn)) ?_))));refine AA U (Ah LR U (Ci (.bool _) Xv U U U H at0 (by (simp; done)) ?_));rintro w H;refine Ab (Aa (Ae (Af U (Ab (Aa (A5 (A9 (v:=(.int _ _)) U U U ?_)))))));rw [if_neg h1',if_neg h1'];exact ⟨rfl,H⟩
theorem VK {b7:Nat} {d:Du} (w:World) (h7:w.heap[b7]? = some (Bl 67 (CT d))) :
  Ret Tryz.prog 178 #[ptr b7] w fun v w'=>v = .int .i64 0∧Ctx w [b7] w' [(b7,Bl 67 (CT { d with am:=0 }))]:=by
 obtain ⟨w0,rfl⟩:∃ w0,w0=w:=⟨_,rfl⟩;have H:=Ctx.start1 h7;refine Az (fn:=Tryz.f178) Tryz.func178 U [.pointer (some ⟨b7,0,none⟩)] U (by kernel_rfl) ?_;refine Ae (Af U (Ab (Aa (Ae (A2 U (AA U (Ah EM U (Ci (.int _ _) Bz U U U H at0 (by (simp; done)) ?_))))))));rintro w H;refine Ab (Aa (Ae (Af U (Ab (Aa (A5 (A9 (v:=(.int _ _)) U U U ?_)))))));exact ⟨rfl,H⟩
theorem WT {bd b:Nat} {nx k:Int} {o:Obj} {ds:List Du} (h:Bool) (w:World) (hd:w.heap[bd]? = some (Bl 165 (DU b nx))) (hb:w.heap[b]? = some o) (hM:Db .u64 (dm ds) o) (hbd:bd≠b) (hof:ofC ds nx=0) :
  Ret Tryz.prog 176 #[ptr bd,.int .u64 k,.bool h] w fun v w'=>v = .int .i64 (Mu ds k h)∧∃ o',Db .u64 (dm (IB ds k h)) o'∧Ctx w [b] w' [(b,o')]:=by
 obtain ⟨w0,rfl⟩:∃ w0,w0=w:=⟨_,rfl⟩;have H:=Ctx.start w0 [];have hbl:=Bb hb
 have hT:∀ (bi:Nat) (w:World),w0.heap.size≤bi→Ext [] w0 w→w.heap[bi]? = some (Bl 4 [.bool h])→Ret Tryz.prog 177 #[ptr bd,.int .u64 k,.func (.func 206) #[] [ptr bi].toArray] w fun v w'=>v = .int .i64 (Mu ds k h)∧∃ o',Db .u64 (dm (IB ds k h)) o'∧Ctx w [b] w' [(b,o')]:=fun bi w hbi hx hi=>by
  cases hf:CQ ds k with
  | none =>
   have hc:Mu ds k h=11:=by unfold Mu; rw [hf]
   refine Ret.mono (P9 w (hx.to hd (by simp)) (hx.to hb (by simp)) hM hbd hf) fun v w' ⟨h1,o',h2,h3⟩=>⟨by rw [hc]; exact h1,o',?_,h3⟩;rw [Mv (by rw [hc]; decide)];exact h2
  | some d =>
   have hid:=(HX hf).2;have hm:=CW ((GF hof).1 d (HX hf).1).1;have hc:Mu ds k h=if d.held=h then 14 else 0:=by unfold Mu; rw [hf]
   refine Ret.mono (Uv (e:=if d.held=h then d else { d with held:=h }) w (hx.to hd (by simp)) (hx.to hb (by simp)) hM hbd hf (by split <;> exact hid) Ahm fun b7 w' hb7 hx' h7=>Abw w' h7 (hx'.to hi (by rw [List.mem_singleton]; omega)) (by have:=Bb hi; omega)) fun v w' ⟨h1,o',h2,h3⟩=>⟨by rw [hc]; exact h1,o',?_,h3⟩
   by_cases hh:d.held=h
   ·rw [if_pos hh,if_pos hh] at h2;rw [Mv (by rw [hc,if_pos hh]; decide)];exact h2
   ·rw [if_neg hh,if_neg hh] at h2;unfold trnD at h2;rw [if_neg (by decide),if_neg (by show ¬ d.am=0; omega),Uu (Ri hof) hf] at h2;unfold IB;rw [hc,if_neg hh,if_pos rfl];exact h2
 refine Az (fn:=Tryz.f176) Tryz.func176 U [.pointer (some ⟨bd,0,none⟩),.int .u64 k,.bool h] U (by kernel_rfl) ?_;refine Ae (Bx _ (.bool _) U U H ?_);rintro b5 w - H;refine Af U (Ab (Aa (Ae (A2 U (Ad U (Ck [.pointer _] U (Al Ve (hT b5 _ ((H.own _ (List.mem_cons_self ..)).elim (fun h=>by cases h) id) H.ext (H.get at0)) U ?_)))))));rintro v w ⟨rfl,o',hM',H2⟩;refine Af U (Ab (Aa (A5 (A9 (v:=(.int _ _)) U U U ?_))));have H3:=H.ext.mono (S':=[b]) (by simp);exact ⟨rfl,o',hM',⟨H3.trans H2.ext,H2.blk,H2.nd,fun y hy=>by rw [List.mem_singleton.1 hy]; exact .inl (List.mem_singleton.2 rfl)⟩⟩
end Go.Proofs.YtdagmpmdcgedcaaGreat
namespace Go.Proofs.YtdagmpmdcgedcaaGreat
open Go.GV
attribute [local irreducible] AD W Wq Wt
section
variable {bd b:Nat} {nx:Int} {o:Obj} {ds:List Du}
theorem Aex {k:Int} (w:World) (hd:w.heap[bd]? = some (Bl 165 (DU b nx))) (hb:w.heap[b]? = some o) (hM:Db .u64 (dm ds) o) (hbd:bd≠b) (hof:ofC ds nx=0) :
  Ret Tryz.prog 108 #[ptr bd,.int .u64 k] w fun v w'=>v = .int .i64 (Mu ds k true)∧∃ o',Db .u64 (dm (IB ds k true)) o'∧Ctx w [b] w' [(b,o')]:=by
 obtain ⟨w0,rfl⟩:∃ w0,w0=w:=⟨_,rfl⟩;refine Az (fn:=Tryz.f108) Tryz.func108 U [.pointer (some ⟨bd,0,none⟩),.int .u64 k] U (by kernel_rfl) ?_;refine Ae (Af U (Ab (Aa (Ae (A2 U (Ad U (Al YZ (WT true _ hd hb hM hbd hof) U ?_)))))));rintro v w ⟨rfl,E⟩;refine Af U (Ab (Aa (A5 (A9 (v:=(.int _ _)) U U U ?_))));exact ⟨rfl,E⟩
theorem VL {k:Int} (w:World) (hd:w.heap[bd]? = some (Bl 165 (DU b nx))) (hb:w.heap[b]? = some o) (hM:Db .u64 (dm ds) o) (hbd:bd≠b) (hof:ofC ds nx=0) :
  Ret Tryz.prog 109 #[ptr bd,.int .u64 k] w fun v w'=>v = .int .i64 (Mu ds k false)∧∃ o',Db .u64 (dm (IB ds k false)) o'∧Ctx w [b] w' [(b,o')]:=by
 obtain ⟨w0,rfl⟩:∃ w0,w0=w:=⟨_,rfl⟩;refine Az (fn:=Tryz.f109) Tryz.func109 U [.pointer (some ⟨bd,0,none⟩),.int .u64 k] U (by kernel_rfl) ?_;refine Ae (Af U (Ab (Aa (Ae (A2 U (Ad U (Al YZ (WT false _ hd hb hM hbd hof) U ?_)))))));rintro v w ⟨rfl,E⟩;refine Af U (Ab (Aa (A5 (A9 (v:=(.int _ _)) U U U ?_))));exact ⟨rfl,E⟩
theorem Uw {k:Int} (w:World) (hd:w.heap[bd]? = some (Bl 165 (DU b nx))) (hb:w.heap[b]? = some o) (hM:Db .u64 (dm ds) o) (hbd:bd≠b) (hof:ofC ds nx=0) :
  Ret Tryz.prog 177 #[ptr bd,.int .u64 k,.func (.func 178) #[] #[]] w fun v w'=>v = .int .i64 (PW ds k)∧∃ o',Db .u64 (dm (SG ds k)) o'∧Ctx w [b] w' [(b,o')]:=by
 cases hf:CQ ds k with
 | none =>
  have hc:PW ds k=11:=by unfold PW; rw [hf]
  refine Ret.mono (P9 (cl:=[]) w hd hb hM hbd hf) fun v w' ⟨h1,o',h2,h3⟩=>⟨by rw [hc]; exact h1,o',?_,h3⟩;rw [Uq (by rw [hc]; decide)];exact h2
 | some d =>
  have hid:=(HX hf).2;have hc:PW ds k=0:=by unfold PW; rw [hf]
  refine Ret.mono (Uv (cl:=[]) (e:={ d with am:=0 }) w hd hb hM hbd hf hid Ahd fun b7 w' hb7 hx' h7=>VK w' h7) fun v w' ⟨h1,o',h2,h3⟩=>⟨by rw [hc]; exact h1,o',?_,h3⟩;unfold trnD at h2;rw [if_neg (by decide),if_pos rfl,N2 (Ri hof)] at h2;exact h2
theorem Yl {k:Int} (w:World) (hd:w.heap[bd]? = some (Bl 165 (DU b nx))) (hb:w.heap[b]? = some o) (hM:Db .u64 (dm ds) o) (hbd:bd≠b) (hof:ofC ds nx=0) :
  Ret Tryz.prog 110 #[ptr bd,.int .u64 k] w fun v w'=>v = .int .i64 (PW ds k)∧∃ o',Db .u64 (dm (SG ds k)) o'∧Ctx w [b] w' [(b,o')]:=by
 obtain ⟨w0,rfl⟩:∃ w0,w0=w:=⟨_,rfl⟩;refine Az (fn:=Tryz.f110) Tryz.func110 U [.pointer (some ⟨bd,0,none⟩),.int .u64 k] U (by kernel_rfl) ?_;refine Ae (Af U (Ab (Aa (Ae (A2 U (Ad U (Al Ve (Uw _ hd hb hM hbd hof) U ?_)))))));rintro v w ⟨rfl,E⟩;refine Af U (Ab (Aa (A5 (A9 (v:=(.int _ _)) U U U ?_))));exact ⟨rfl,E⟩
end
def SK (ds:List Du) (u:Int) (i:Nat):List Du:=(ds.take i).filter (fun d=>decide (u≤d.un))++ds.drop i
def Ic (ds:List Du) (u:Int) (i:Nat):List Value:=((ds.take i).filter fun d => !decide (u≤d.un)).map fun d => .int .u64 d.id
theorem Aey {X Y:List Du} {d:Du} (h:∀ x∈X,x.id≠d.id):Lc (dm (X++d::Y)) d.id=dm (X++Y):=by
 induction X with
 | nil=>show (if d.id=d.id then dm Y else _)=_; rw [if_pos rfl]; rfl
 | cons x X ih =>
  show (if x.id=d.id then _ else (x.id,Gm x)::Lc (dm (X++d::Y)) d.id)=_;rw [if_neg (h x (List.mem_cons_self ..)),ih fun y hy=>h y (List.mem_cons_of_mem _ hy)];rfl
theorem Abx {ds:List Du} {u nx:Int} {i:Nat} {d:Du} (hof:ofC ds nx=0) (hd:ds[i]? = some d) :
  (u≤d.un→SK ds u (i+1)=SK ds u i∧Ic ds u (i+1)=Ic ds u i)∧(¬ u≤d.un→Lc (dm (SK ds u i)) d.id=dm (SK ds u (i+1))∧Ic ds u (i+1)=Ic ds u i++[.int .u64 d.id]):=by
 have hil:=Cu hd;have ht:ds.take (i+1)=ds.take i++[d]:=List.take_add_one.trans (by rw [hd]; rfl)
 have hdr:ds.drop i=d::ds.drop (i+1):=by
  have h1:=List.drop_eq_getElem_cons hil;have h2:=List.getElem?_eq_getElem hil;rw [hd] at h2
  injection h2 with h2
  rw [h1,h2]
 have hn:∀ x∈ds.take i,x.id≠d.id:=fun x hx=>by
  have h1:=(GF hof).2;rw [← List.take_append_drop i ds,List.map_append,List.pairwise_append,hdr] at h1;exact Int.ne_of_lt (h1.2.2 x.id (List.mem_map_of_mem hx) d.id (List.mem_map_of_mem (List.mem_cons_self ..)))
 constructor
 ·intro h;unfold SK Ic;rw [ht,List.filter_append,List.filter_append,hdr];constructor
  ·rw [List.filter_cons,if_pos (by simpa using h),List.filter_nil,List.append_assoc];rfl
  ·rw [List.filter_cons,if_neg (by simpa using h),List.filter_nil,List.append_nil]
 ·intro h;unfold SK Ic;rw [ht,List.filter_append,List.filter_append,hdr];constructor
  ·rw [List.filter_cons,if_neg (by simpa using h),List.filter_nil,List.append_nil];exact Aey fun x hx=>hn x (List.mem_filter.1 hx).1
  ·rw [List.filter_cons,if_pos (by simpa using h),List.filter_nil,List.map_append];rfl
theorem Aby (ds:List Du) (u:Int):(Ic ds u ds.length).length=ds.length - (Ew ds u).length∧SK ds u ds.length=Ew ds u:=by
 unfold Ic SK Ew;rw [List.take_length,List.drop_length,List.append_nil,List.length_map];refine ⟨?_,rfl⟩
 induction ds with
 | nil=>rfl
 | cons d ds ih =>
  have h1:=List.length_filter_le (fun d=>decide (u≤d.un)) ds;rw [List.filter_cons,List.filter_cons]
  by_cases h:u≤d.un
  ·rw [if_neg (by simpa using h),if_pos (by simpa using h),List.length_cons,List.length_cons,ih]; omega
  ·rw [if_pos (by simpa using h),if_neg (by simpa using h),List.length_cons,List.length_cons,ih]; omega
structure ExS where
 i:Nat
 o:Obj
 a:Option Addr
 c:Nat
 full:List Value
set_option maxRecDepth 20000 in
set_option maxHeartbeats 1000000 in
theorem Ym {bd b:Nat} {nx u:Int} {o:Obj} {ds:List Du} (w:World) (hd:w.heap[bd]? = some (Bl 165 (DU b nx))) (hb:w.heap[b]? = some o) (hM:Db .u64 (dm ds) o) (hbd:bd≠b) (hof:ofC ds nx=0) :
  Ret Tryz.prog 111 #[ptr bd,.int .i64 u] w fun v w'=>∃ o',Db .u64 (dm (Ew ds u)) o'∧Ctx w [b] w' [(b,o')]∧∃ a c,v = .slice a (ds.length - (Ew ds u).length) c:=by
 obtain ⟨w0,rfl⟩:∃ w0,w0=w:=⟨_,rfl⟩;obtain ⟨h64,-,h3,-⟩:=Er hof;have hbl:=Bb hb;refine Az (fn:=Tryz.f111) Tryz.func111 U [.pointer (some ⟨bd,0,none⟩),.int .i64 u] U (by kernel_rfl) ?_;refine Ae (A4 U (Ab (Aa (Ae (A4 U (Ab (Aa (Au (Ae (A2 U (Al LK (Mc _ hd hb hM (Kl hof)) U ?_)))))))))));rintro v w ⟨ds',hS,F⟩;have hde:=Mj hS (J2 h3).2.1;rw [hde] at F;obtain ⟨a3,n3,c3,f3,rfl,O3,hb3⟩:=F.ex;obtain rfl:=O3.numN (fun _ _=>rfl) (by decide);have hx9:=F.ext;refine Be CE U (Ad U (Ab (Aa (A0 ?_))));obtain ⟨w1,rfl⟩:∃ z,z=w:=⟨_,rfl⟩;have R:Rd w1 a3 7 CT ds:=OS.rd O3 (fun x hx=>(hb3 x hx).1) (fun _ _=>rfl) (by decide)
 have hnb:ds≠[]→(adr a3).block∉[b]:=fun hne=>by
  have hpos:=List.length_pos_iff.2 hne;obtain ⟨q,rfl⟩:=O3.form hpos;have h1:=(hb3 (q,Bl 67 f3) (List.mem_singleton.2 rfl)).2;rw [List.mem_singleton];show ¬ q=b;dsimp only at h1;omega
 have H:=Ctx.start1 (hx9.to hb (by simp));have hd1:=hx9.to hd (by simp);have hn:bd∉[b]:=by rw [List.mem_singleton]; exact hbd
 refine Bv 2147481760 (α:=ExS) (fun t=>[(5,.slice t.a (Ic ds u t.i).length t.c),(11,.int .i64 (t.i:Int))]) (fun t w'=>t.i≤ds.length∧Db .u64 (dm (SK ds u t.i)) t.o∧OS t.a (Ic ds u t.i).length t.c 1 t.full (Ic ds u t.i)∧Ctx w1 [b] w' ((b,t.o)::ent t.a 28 t.full)) (fun t=>ds.length - t.i) ⟨0,o,none,0,[]⟩ U ?_ ?_ ?_
 ·exact ⟨rfl,rfl,trivial⟩
 ·exact ⟨Nat.zero_le _,hM,OS.nil,H⟩
 ·rintro ⟨i,o,a,c,full⟩ j w ⟨hi,hM,O,H⟩; dsimp only at hi hM O H; dsimp only;refine Ae (Bj U U (Ab (Aa (Au (Ao _ U ?_ ?_)))))
  ·intro h1;replace h1:=AM h1;obtain ⟨d,hdi⟩:=A8 (l:=ds) (i:=i);have hne:ds≠[]:=fun h=>by rw [h] at hdi; cases hdi
   have hdl:(Ic ds u i).length≤ds.length:=by unfold Ic; rw [List.length_map]; exact Nat.le_trans (List.length_filter_le ..) (by rw [List.length_take]; omega)
   obtain ⟨hs1,hs2⟩:=Abx (u:=u) hof hdi;refine Ap (Aa (Au (A0 (Ae (AX R CE Cg U U (by rfl) ?_)))));refine BW _ Fq Cg U U (((R.ext' H.ext fun _=>hnb hne).row hdi U)) ?_;refine Ba Ex H ?_;rintro b7 w - H;refine Bm Cg U U U (by exact Dg _) H at0 U ?_;rintro w H;refine Ab (Aa (Ae (Ah NL U (AH Bs U H at0 U (Ad U (Bj U U (Ab (Aa (Ao _ U ?_ ?_)))))))))
   ·intro h2;replace h2:=AM h2;obtain ⟨hs3,hs4⟩:=hs2 (by omega);have hl4:(Ic ds u (i+1)).length=(Ic ds u i).length+1:=by rw [hs4,List.length_append,List.length_singleton]
    refine Ae (Ay U (Ah G9 U (AH B1 U H at0 U (Cj _ (.int _ _) Bt Bo OX U (by decide) (by decide) U U U H ?_))));rintro b22 w - H;refine CF (L:=[_,_]) Bt Bt Bo Wk OX U (by decide) U U H O U (by simp [Bg]) ?_;rintro a' c' full' w H O;refine A4 U (Ab (Aa (FN 6 Bq (by kernel_rfl) U U ?_)));refine B5 U (AZ U (A3 DP U (BR Fo U (by rintro _ rfl; exact ((H.drew.old (Aj hd1 _) hn))) ?_)));refine A3 G9 U (Cc B1 U (by rintro _ rfl; exact H.drew) at0 U ?_);refine BQ ?_;replace H:=H.drew;refine MG U F8 F5 U U H at1 hM ?_;rintro o2 w hM2 H;refine Ab (A6 (Aa (Ax (Aw U U ?_))));refine Ad U (Ab (Aa ?_));rw [hs3] at hM2;exact ⟨⟨i+1,o2,a',c',full'⟩,rfl,⟨by dsimp only; rw [hl4]; rfl,rfl,trivial⟩,⟨by dsimp only; omega,hM2,by dsimp only; rw [hl4,hs4]; exact O,H.tail⟩,by dsimp only; omega⟩
   ·intro h2;replace h2:=AN h2;obtain ⟨hs3,hs4⟩:=hs1 (by omega);refine Ap (A6 (Aa (Ax (Aw U U ?_))));refine Ad U (Ab (Aa ?_));exact ⟨⟨i+1,o,a,c,full⟩,rfl,⟨by dsimp only; rw [hs4]; rfl,rfl,trivial⟩,⟨by dsimp only; omega,by dsimp only; rw [hs3]; exact hM,by dsimp only; rw [hs4]; exact O,H.tail⟩,by dsimp only; omega⟩
  ·intro h1;replace h1:=AN h1;obtain rfl:i=ds.length:=by omega
   obtain ⟨g1,g2⟩:=Aby ds u;rw [g2] at hM;refine Br (An (An (AK (Aa (Ae (Ay U (A4 U (Ab (Aa (A5 (A9 (v:=(.slice _ _ _)) U U U ?_)))))))))));exact ⟨o,hM,⟨(hx9.mono (by simp)).trans H.ext,fun y hy=>H.blk y (List.mem_cons.2 (.inl (List.mem_singleton.1 hy))),by simp,fun y hy=>by rw [List.mem_singleton.1 hy]; exact .inl (List.mem_singleton.2 rfl)⟩,a,c,by rw [g1]⟩
end Go.Proofs.YtdagmpmdcgedcaaGreat
namespace Go.Proofs.YtdagmpmdcgedcaaGreat
open Go.GV
attribute [local irreducible] AD W Wq Wt
set_option maxRecDepth 20000 in
set_option maxHeartbeats 4000000 in
theorem Abz {bd b:Nat} {nx:Int} {o:Obj} {ds:List Du} (fr to x we un:Int) (w:World) (hd:w.heap[bd]? = some (Bl 165 (DU b nx))) (hb:w.heap[b]? = some o) (hM:Db .u64 (dm ds) o) (hbd:bd≠b) (hof:ofC ds nx=0) :
  Ret Tryz.prog 107 #[ptr bd,.int .i64 fr,.int .i64 to,.int .i64 x,.int .i64 we,.int .i64 un] w fun v w'=>v = .tuple #[.int .u64 (if J4 ds nx fr to x we un=0 then nx else 0),.int .i64 (J4 ds nx fr to x we un)] ∧
   ∃ o',Db .u64 (dm (MZ ds nx fr to x we un)) o'∧Ctx w [bd,b] w' [(bd,Bl 165 (DU b (P5 ds nx fr to x we un))),(b,o')]:=by
 obtain ⟨w0,rfl⟩:∃ w0,w0=w:=⟨_,rfl⟩
 have H:Ctx w0 [bd,b] w0 [(bd,Bl 165 (DU b nx)),(b,o)]:=⟨Ext.refl _ _,fun y hy=>by
  simp only [List.mem_cons,List.not_mem_nil,or_false] at hy
  rcases hy with rfl | rfl
  ·exact hd
  ·exact hb,by simp only [List.pairwise_cons,List.mem_singleton,forall_eq,List.not_mem_nil,false_implies,implies_true,List.Pairwise.nil,and_true]; exact hbd,fun y hy=>by
  simp only [List.mem_cons,List.not_mem_nil,or_false] at hy
  rcases hy with rfl | rfl
  ·exact .inl (List.mem_cons_self ..)
  ·exact .inl (List.mem_cons_of_mem _ (List.mem_cons_self ..))⟩
 obtain ⟨hlen,hnx,-,-⟩:=Er hof;have hnew:∀ x∈ds,x.id≠nx:=fun x hx=>Int.ne_of_lt ((GF hof).1 x hx).2.2;have hdl:(dm ds).length=ds.length:=by unfold dm; rw [List.length_map]
 have hno:Eo (dm ds) nx=none:=QN hnew;obtain ⟨d,hdd⟩:∃ d,d=Abd nx fr to x we un:=⟨_,rfl⟩;obtain ⟨tt,htt⟩:∃ tt,tt=EX (ds.map Du.am++[x]):=⟨_,rfl⟩;have henc:[Value.int .u64 nx,.int .i64 fr,.int .i64 to,.int .i64 x,.int .i64 we,.int .i64 un,.bool false]=CT d:=by rw [hdd]; rfl
 have hadd:J4 ds nx fr to x we un=if Ej d=false then 1 else if 64≤ds.length∨4611686018427387904≤nx then 6 else if tt.2≠0 then 13 else 0:=by rw [htt,hdd]; rfl
 have herr:∀ c,c≠0→J4 ds nx fr to x we un=c→MZ ds nx fr to x we un=ds∧P5 ds nx fr to x we un=nx:=fun c h0 hc=>CO (by rw [hc]; exact h0);refine Az (fn:=Tryz.f107) Tryz.func107 U [.pointer (some ⟨bd,0,none⟩),.int .i64 fr,.int .i64 to,.int .i64 x,.int .i64 we,.int .i64 un] U (by kernel_rfl) ?_;refine Ae (Af U (Af U (Ab (Aa (Au (Ae (A2 U (Cw I6 U ?_))))))));refine Ab (Aa (Ao _ U ?_ ?_))
 ·intro h0;cases h0
 ·intro h0;refine Ap (Aa (Ae (A2 U (AA U (Ah JU U (AH B1 U H at0 U (Ad U (Ad U (Ad U (Ad U ?_))))))))));refine Ad U (B6 (CT d) pl_67 Ex (by rw [← henc]; kernel_rfl) ?_);refine Ba Ex H ?_;rintro b14 w - H;refine Bm Cg U U U (by exact Dg d) H at0 U ?_;rintro w H;refine Ab (Aa (Au (A0 (Ae (Cr Fq Cg U H at0 U (Al YX (WF d _) U ?_))))));rintro v w ⟨rfl,hx31⟩;replace H:=H.call hx31;refine BF U (Ai U (Ab (Aa (Ao _ U ?_ ?_))))
  ·intro h1;replace h1:=BG h1
   have hm:Ej d=false:=by cases hh:Ej d with | false=>rfl | true=>rw [hh] at h1; cases h1
   have hc:J4 ds nx fr to x we un=1:=by rw [hadd,if_pos hm]
   obtain ⟨hc1,hc2⟩:=herr 1 (by decide) hc;refine Ae (Af U (Af U (Ab (Aa (A5 (AB (Aq (Ca (v1:=(.int _ _)) (v2:=(.int _ _)) U U U U ?_))))))));rw [hc,hc1,hc2,if_neg (by decide)];exact ⟨rfl,o,hM,H.tail⟩
  ·intro h1;replace h1:=BH h1
   have hm:Ej d=true:=by cases hh:Ej d with | true=>rfl | false=>rw [hh] at h1; cases h1
   rw [hm] at hadd;rw [if_neg (by decide)] at hadd;refine Au (Ae (A2 U (AA U (Ah DP U (AH Fo U H at1 U (Aej U F8 U (H.get at2) hM ?_))))));rw [hdl];refine C9 U U (Ai U (Ab (Aa (Dk 33 U ?_ ?_))))
   ·intro h2;replace h2:=AM h2;have hc:J4 ds nx fr to x we un=6:=by rw [hadd,if_pos (.inl (by omega))]
    obtain ⟨hc1,hc2⟩:=herr 6 (by decide) hc;refine Ap (Aa (DC U (Ae (Af U (Af U (Ab (Aa (A5 (AB (Aq (Ca (v1:=(.int _ _)) (v2:=(.int _ _)) U U U U ?_)))))))))));rw [hc,hc1,hc2,if_neg (by decide)];exact ⟨rfl,o,hM,H.tail⟩
   ·intro h2;replace h2:=AN h2;refine Ax (A2 U (AA U (Ah JU U (AH B1 U H at1 U (C9 U U (Ai U (Ab (Aa (Dk 33 U ?_ ?_)))))))))
    ·intro h3;replace h3:=AM h3;have hc:J4 ds nx fr to x we un=6:=by rw [hadd,if_pos (.inr (by omega))]
     obtain ⟨hc1,hc2⟩:=herr 6 (by decide) hc;refine Ae (Af U (Af U (Ab (Aa (A5 (AB (Aq (Ca (v1:=(.int _ _)) (v2:=(.int _ _)) U U U U ?_))))))));rw [hc,hc1,hc2,if_neg (by decide)];exact ⟨rfl,o,hM,H.tail⟩
    ·intro h3;replace h3:=AN h3;rw [if_neg (by omega)] at hadd;refine Ap (A6 (Aa (Au (Ae (A2 U (Al YY (Pr _ (H.get at1) (H.get at2) hM) U ?_))))));rintro v w ⟨l,hlp,F⟩;obtain ⟨a3,n3,c3,f3,rfl,O3,hb3⟩:=F.ex;have hl3:=O3.llen;rw [List.length_map] at hl3;have hlq:=hlp.length_eq;rw [List.length_map] at hlq;replace H:Ctx w0 [bd,b] w ([(b14,Bl 67 (CT d)),(bd,Bl 165 (DU b nx)),(b,o)]++ent a3 2 f3):=H.callEnt F.ext hb3 Ge;refine Ad U (Cj _ (.int _ _) AU Bz Ei U (by decide) (by decide) U U U H ?_);rintro b49 w - H;refine CF (L:=[_,_,_]) AU AU Bz Lh Ei U (by decide) U U H O3 U (by simp [Bg]) ?_;rintro a' c' full' w H O;refine Al OI (Mb a' (n3+1) c' (l++[x]) _ (OS.rd1 (f:=Dm) (t:=2) (xs:=l++[x]) (by rw [List.map_append]; exact O) (fun y hy=>H.blk y (List.mem_append_right [_,_,_] hy))) (by rw [List.length_append]; show l.length+1=_; omega)) U ?_
     rintro v w ⟨rfl,rfl⟩;rw [QM (hlp.append_right [x])];rw [← htt];refine CA U (AS U U (AS U U (Af U (Af U (Ab (Aa (Ae (Ad U (C0 U U (Ab (Aa ?_)))))))))));refine Ao _ U ?_ ?_
     ·intro h4;replace h4:=C7 h4
      have ht13:tt.2=13:=by
       rw [htt] at h4 ⊢;have hxm:=C4.2 (show 0≤x∧x≤4503599627370496 by obtain ⟨-,-,-,hxa,-⟩:=CW hm; rw [hdd] at hxa; change 1≤x∧x≤_ at hxa; exact ⟨by omega,hxa.2⟩)
       have hall:(ds.map Du.am++[x]).all Df=true:=by
        rw [List.all_append,Bool.and_eq_true];refine ⟨List.all_eq_true.2 fun y hy=>?_,by simpa using hxm⟩;exact (Dp.1 (Fy.1 hof).2.2.2).1 y hy
       unfold EX at h4 ⊢;rw [if_neg (by rw [hall]; decide)] at h4 ⊢
       split at h4
       ·exact absurd U h4
       ·rename_i hh; rw [if_neg hh]
      have hc:J4 ds nx fr to x we un=13:=by rw [hadd,if_pos (by rw [ht13]; decide)]
      obtain ⟨hc1,hc2⟩:=herr 13 (by decide) hc;refine Ae (Ad U (Af U (Af U (Ab (Aa (A5 (Aq (Ca (v1:=(.int _ _)) (v2:=(.int _ _)) U U U U ?_))))))));rw [hc,hc1,hc2,if_neg (by decide),ht13];exact ⟨rfl,o,hM,H.left.tail⟩
     ·intro h4;replace h4:=C8 h4;have hc:J4 ds nx fr to x we un=0:=by rw [hadd,if_neg (by omega)]
      replace H:=H.left;refine Ap (Aa (DZ 7 Bq (by kernel_rfl) U U ?_));refine B5 U (AZ U (A3 DP U (Cc Fo U (by rintro _ rfl; exact H.drew) at1 U ?_)));refine A3 G9 U (Cc B1 U (by rintro _ rfl; exact H.drew) at0 U ?_);refine Oj U Fq Cg U (by rintro _ rfl; exact H.drew) at0 U ?_;refine BQ ?_;replace H:=H.drew;refine Jk (Gm d) U F8 F5 U U U H at2 hM ?_;rintro o2 w hM2 H;refine Ab (Aa (Ae (A2 U (AA U (Ah JU U (AH B1 U H at1 U (EI U U ?_)))))));refine AA U (Ah JU U (Ci (.int _ _) Bo U U U H at1 (by (simp; done)) ?_));rintro w H;refine Ab (Aa (Ae (Ah G9 U (AH B1 U H at0 U (Af U (Af U (Ab (Aa (A5 (Ca (v1:=(.int _ _)) (v2:=(.int _ _)) U U U U ?_))))))))));have hid:d.id=nx:=by rw [hdd]; rfl
      rw [← hid] at hno;rw [Aa1 hno] at hM2;unfold MZ P5;rw [hc,if_pos rfl,if_pos rfl,if_pos rfl];rw [hdd] at hM2 ⊢;exact ⟨rfl,o2,hM2,H.tail⟩
end Go.Proofs.YtdagmpmdcgedcaaGreat
namespace Go.Proofs.YtdagmpmdcgedcaaGreat
open Go.GV
def newA (kd:Int) (a:Ac) (x:Int):Ac:=if kd=2 then ⟨a.ba+x,a.re⟩ else if kd=3 then ⟨a.ba - x,a.re⟩ else ⟨a.ba,x⟩
def bankC (kd:Int) (acs:List Ac) (k x:Int):Int:=if kd=2 then Fu acs k x else if kd=3 then EZ acs k x else Mp acs k x
def bankA (kd:Int) (acs:List Ac) (k x:Int):List Ac:=if kd=2 then EG acs k x else if kd=3 then EB acs k x else GX acs k x
def liteC (kd:Int) (is:Bool) (a:Ac) (x:Int):Int :=
 if is=false then 10
 else if kd=2 then (if (decide (0<x) && Df x)=false then 1 else 0)
 else if kd=3 then (if (decide (0<x) && Df x)=false then 1 else if a.ba<x then 12 else 0)
 else if Df x=false then 1 else 0
end Go.Proofs.YtdagmpmdcgedcaaGreat
namespace Go.Proofs.YtdagmpmdcgedcaaGreat
open Go.GV
theorem N3 {s:Ld} (h:s.Ok) {net net2:Bool} {r1 r2:Rnd} (P1:PlanR s.acs s.ds net r1) (hno:s.no<4611686018427387904) (P2:PlanR (CR s r1).acs (CR s r1).ds net2 r2) (hn:net=true→net2=true) (hno2:s.no+1<4611686018427387904) :
  DM (opn (CR s r1).ds) r2.fl (opn (CR s r1).ds).length=0∧Gn (r2.fl.take (opn (CR s r1).ds).length) (opn (CR s r1).ds).length=0∧(CR (CR s r1) r2).acs=(CR s r1).acs∧(CR (CR s r1) r2).ds=(CR s r1).ds:=by
 obtain ⟨hC,hO⟩:=Kp h P1 hno;obtain ⟨hC2,-⟩:=Kp hO P2 (show s.no+1<_ from hno2);have hz:∀ x∈r2.fl.take (opn (CR s r1).ds).length,x=0:=VF h.ac h.du hC P1 P2 hn;have F2:=DL hO.ac hO.du hC2;have hl:(opn (CR s r1).ds).length≤r2.fl.length:=by have:=F2.pay.1; rw [List.length_take] at this; omega
 obtain ⟨e1,e2⟩:=VH hO.ac hO.du hC2 hz;refine ⟨?_,Ra hz _ (by rw [List.length_take]; omega),e1,e2⟩;rw [← Py _ (Nat.le_refl _)];exact VI hz (by rw [List.length_take]; omega)
theorem SM {s:Ld} (h:s.Ok) {net:Bool} {r1 r2 r3:Rnd} (P1:PlanR s.acs s.ds net r1) (P2:PlanR (CR s r1).acs (CR s r1).ds net r2) (P3:PlanR (CR (CR s r1) r2).acs (CR (CR s r1) r2).ds true r3)  (hno:s.no+2<4611686018427387904:=by omega):
  DM (opn (CR (CR s r1) r2).ds) r3.fl (opn (CR (CR s r1) r2).ds).length=0:=by
 have hO:=(Kp h P1 (by omega)).2;exact (N3 hO P2 (show s.no+1<_ by omega) P3 (fun _=>rfl) (show s.no+1+1<_ by omega)).1
theorem Ab0 {s s':Ld} {p:Rp} {a:Ak} (hk:a.kd=9) (hs:Cq s a s' p) (hu:s.day≤a.u):p=⟨0,[((s.ds.length - (Ew s.ds a.u).length:Nat):Int)]⟩∧s'={ s with day:=a.u,ds:=Ew s.ds a.u }:=by
 unfold Cq at hs;rw [if_neg (by omega)] at hs;obtain ⟨rfl,rfl⟩:=hs;unfold Es EC
 rw [if_neg (by omega),if_neg (by omega),if_neg (by omega),if_neg (by omega),if_neg (by omega),if_neg (by omega),if_neg (by omega),if_neg (by omega),if_pos hk,if_neg (by omega),
  if_neg (by omega),if_neg (by omega),if_neg (by omega),if_neg (by omega),if_neg (by omega),if_neg (by omega),if_neg (by omega),if_neg (by omega),if_pos hk,if_pos hu]
 exact ⟨rfl,rfl⟩
theorem Aez {s s':Ld} {p:Rp} {a:Ak} (hk:a.kd=9) (hs:Cq s a s' p) (hu:a.u<s.day):p=⟨3,[]⟩∧s'=s:=by
 unfold Cq at hs;rw [if_neg (by omega)] at hs;obtain ⟨rfl,rfl⟩:=hs;unfold Es EC
 rw [if_neg (by omega),if_neg (by omega),if_neg (by omega),if_neg (by omega),if_neg (by omega),if_neg (by omega),if_neg (by omega),if_neg (by omega),if_pos hk,if_pos hu,
  if_neg (by omega),if_neg (by omega),if_neg (by omega),if_neg (by omega),if_neg (by omega),if_neg (by omega),if_neg (by omega),if_neg (by omega),if_pos hk,if_neg (by omega)]
 exact ⟨rfl,rfl⟩
theorem Ux {s:Ld} (h:s.Ok) {net:Bool} {r:Rnd} (P:PlanR s.acs s.ds net r) (hno:s.no<4611686018427387904) {k:Nat} {a b:Ac} (ha:s.acs[k]? = some a) (hb:(CR s r).acs[k]? = some b) :
  Ev (CR s r).acs (CR s r).ds k=Ev s.acs s.ds k∧min a.ba a.re≤b.ba∧(net=true→b.ba=a.ba):=by
 obtain ⟨hC,-⟩:=Kp h P hno;obtain ⟨h1,-,h3⟩:=Abc h.ac h.du hC ha hb;exact ⟨VD h.ac h.du hC (Cu ha),h1,fun hn=>h3 (by rw [P.cmp]; exact hn)⟩
end Go.Proofs.YtdagmpmdcgedcaaGreat
namespace Go.Proofs.YtdagmpmdcgedcaaGreat
open Go.GV
attribute [local irreducible] AD W Wq Wt
def Rj (N M:Int) (xs ys:List Ed):Bool:=decide (N=M) && decide (xs=ys)
set_option maxRecDepth 20000 in
set_option maxHeartbeats 2000000 in
theorem VM (N M:Int) (a b:Option Addr) (n c m d:Nat) (xs ys:List Ed) (w:World) (R:Rd w a 4 CG xs) (hn:xs.length=n) (hn2:n≤1000000) (Ry:Rd w b 4 CG ys) (hm:ys.length=m) (hm2:m≤1000000) :
  Ret Tryz.prog 188 #[DT N a n c,DT M b m d] w fun v w'=>v = .bool (Rj N M xs ys)∧Ext [] w w':=by
 subst hn hm;obtain ⟨w0,rfl⟩:∃ w0,w0=w:=⟨_,rfl⟩;have H:=Ctx.start w0 [];refine Az (fn:=Tryz.f188) Tryz.func188 U [DT N a xs.length c,DT M b ys.length d] U (by kernel_rfl) ?_;refine Ae (Bx [.int .i64 N,.slice a xs.length c] (.agg _) U U H ?_);rintro b2 w - H;refine Bx [.int .i64 M,.slice b ys.length d] (.agg _) U U H ?_;rintro b3 w - H;refine Ai U (Ab (Aa (Au (Ae (Cb (α:=Unit) 1048512 (fun _=>[(19,.bool (!(decide (N=M) && decide (xs.length=ys.length))))]) (fun _ w'=>Ctx w0 [] w' [(b3,Bl 51 [.int .i64 M,.slice b ys.length d]),(b2,Bl 51 [.int .i64 N,.slice a xs.length c])]) U ?_ ?_)))))
 ·refine Ah EK U (AH BZ U H at1 U (Ah EK U (AH BZ U H at0 U (C0 U U (A7 U (AO 11 U ?_ ?_))))))
  ·intro h1;replace h1:=C7 h1;refine Ag U (Ag U (Ag U (Ag U (Ag U (Ag U (Ag U (AF U (.bool _) U (Ab ?_))))))));exact ⟨rfl,(),rfl,⟨congrArg Value.bool (by rw [Bool.eq_iff_iff]; simp_all; try omega),trivial⟩,H⟩
  ·intro h2;replace h2:=C8 h2;refine Ah Dd U (AH E4 U H at1 U (Be Di U (Ah Dd U (AH E4 U H at0 U (Be Di U (C0 U U (AG U (.bool _) U (Ab ?_))))))));exact ⟨rfl,(),rfl,⟨congrArg Value.bool (by rw [Bool.eq_iff_iff]; simp_all; try omega),trivial⟩,H⟩
 rintro - j19 w H;refine Ao _ U ?_ ?_
 ·intro h1;replace h1:=BG h1;refine Ae (Ai U (Ab (Aa (A5 (Aq (A9 (v:=(.bool _)) U U U ?_))))));have h1':¬ (N=M∧xs.length=ys.length):=by simpa using h1
  refine ⟨congrArg Value.bool ?_,H.ext⟩;unfold Rj
  by_cases h2:N=M
  ·rw [decide_eq_true h2,decide_eq_false (fun h=>h1' ⟨h2,by rw [h]⟩)]; rfl
  ·rw [decide_eq_false h2]; rfl
 ·intro h1;replace h1:=BH h1;have h1':N=M∧xs.length=ys.length:=by simpa using h1
  have hsb:Rj N M xs ys=decide (xs=ys):=by unfold Rj; rw [decide_eq_true h1'.1]; rfl
  have hle:=h1'.2;rw [hsb];refine Ap (Aa (Au (Ae (Af U (Ab (Aa (A0 (Bv 274876858416 (α:=Nat) (fun i=>[(5,.int .i64 (i:Int))]) (fun i w'=>i≤xs.length∧Ctx w0 [] w' [(b3,Bl 51 [.int .i64 M,.slice b ys.length d]),(b2,Bl 51 [.int .i64 N,.slice a xs.length c])]∧∀ (k:Nat) (x y:Ed),k<i→xs[k]? = some x→ys[k]? = some y→x=y) (fun i=>xs.length - i) 0 U ?_ ?_ ?_))))))))
  ·exact ⟨rfl,trivial⟩
  ·exact ⟨Nat.zero_le _,H,fun k x y h=>absurd h (Nat.not_lt_zero _)⟩
  ·clear H;rintro i j w ⟨hi,H,hb⟩;refine Au (Ae (Ad U (Ah Dd U (AH E4 U H at1 U (Be Di U (Bj U U (Ab (Aa (Ao _ U ?_ ?_)))))))))
   ·intro h2;replace h2:=AM h2;obtain ⟨x,hx⟩:=A8 (l:=xs) (i:=i);obtain ⟨y,hy⟩:=A8 (l:=ys) (i:=i);refine Ap (Aa (Au (A0 (Dw (fun x=>x=_) Bq (by kernel_rfl) U ?_))));refine A3 Dd U (Cc E4 U (by rintro _ rfl; exact H.drew) at1 U ?_);refine AY U (BE R Di Dj U U (by rfl) ?_);refine Gu _ IK Dj U U (by rintro _ rfl; exact ((R.ext0 H.drew.ext).row hx rfl)) ?_;refine A3 Dd U (Cc E4 U (by rintro _ rfl; exact H.drew) at0 U ?_);refine AY U (BE Ry Di Dj U U (by rfl) ?_);refine Gu _ IK Dj U U (by rintro _ rfl; exact ((Ry.ext0 H.drew.ext).row hy rfl)) ?_;refine Wh (ks:=[true,true,true,true]) (xs:=CG x) (ys:=CG y) (decide (x=y)) U (by kernel_rfl) U U ⟨rfl,rfl,rfl,rfl,trivial⟩ (TY x y) ?_;refine BQ ?_;rintro _ rfl;replace H:=H.drew;refine Ao _ U ?_ ?_
    ·intro h3;refine Ae (Ai U (Ab (Aa (A5 (AB (Aq (Aq (AB (Aq (A9 (v:=(.bool _)) U U U ?_))))))))));have hne:¬ x=y:=by simpa using h3
     exact ⟨congrArg Value.bool (decide_eq_false fun h=>by subst h; rw [hx] at hy; injection hy with hy; exact hne hy).symm,H.ext⟩
    ·intro h3;refine Ap (A6 (Aa (Ax (Ad U (Aw U U ?_)))));refine Af U (Ab (Aa ?_));have heq:x=y:=by simpa using h3
     refine ⟨i+1,rfl,⟨rfl,trivial⟩,⟨by omega,H,fun k x' y' hk hx' hy'=>?_⟩,by omega⟩
     rcases Nat.lt_or_ge k i with h7 | h7
     ·exact hb k x' y' h7 hx' hy'
     ·obtain rfl:k=i:=by omega
      rw [hx] at hx'; rw [hy] at hy';cases hx'; cases hy';exact heq
   ·intro h2;replace h2:=AN h2;refine Br (An (An (AK (Aa (Ae (Ai U (Ab (Aa (A5 (A9 (v:=(.bool _)) U U U ?_))))))))));have hin:i=xs.length:=by omega
    rw [hin] at hb;exact ⟨congrArg Value.bool (decide_eq_true (Mf hle hb)).symm,H.ext⟩
def RdAt (w:World) (br:Nat) (ds:List Du):Prop:=∃ a c nx,w.heap[br]? = some (Bl 148 [.slice a ds.length c,.int .u64 nx])∧Rd w a 7 CT ds
theorem RdAt.ext0 {w w':World} {br:Nat} {ds:List Du} (h:RdAt w br ds) (he:Ext [] w w'):RdAt w' br ds:=by
 obtain ⟨a,c,nx,h1,h2⟩:=h;exact ⟨a,c,nx,he.to h1 (by simp),h2.ext0 he⟩
end Go.Proofs.YtdagmpmdcgedcaaGreat
namespace Go.Proofs.YtdagmpmdcgedcaaGreat
open Go.GV
attribute [local irreducible] AD W Wq Wt
abbrev RDU (ad:Option Addr) (m cd:Nat) (nx:Int):Obj:=Bl 148 [.slice ad m cd,.int .u64 nx]
abbrev RX (ba:Nat) (a:Option Addr) (n c:Nat) (full:List Value) (br:Nat) (ad:Option Addr) (m cd:Nat) (nx:Int) (fd:List Value):List (Nat × Obj):=(ba,Bl 125 [.slice a n c])::(br,RDU ad m cd nx)::(ent ad 67 fd++ent a 43 full)
structure RP7 where
 i:Nat
 ad:Option Addr
 cd:Nat
 fd:List Value
end Go.Proofs.YtdagmpmdcgedcaaGreat
namespace Go.Proofs.YtdagmpmdcgedcaaGreat
open Go.GV
attribute [local irreducible] AD W Wq Wt
structure Four where
 bx:Nat
 a:Option Addr
 c:Nat
 full:List Value
 bd:Nat
 b:Nat
 o:Obj
 ba:Nat
 ra:Option Addr
 rc:Nat
 rfull:List Value
 br:Nat
 ad:Option Addr
 cd:Nat
 fd:List Value
def Four.L (z:Four) (acs:List Ac) (ds:List Du) (nx:Int):List (Nat × Obj):=LX z.bx z.a acs.length z.c z.full z.bd z.b nx z.o++RX z.ba z.ra acs.length z.rc z.rfull z.br z.ad ds.length z.cd nx z.fd
structure Four.Ok (z:Four) (acs:List Ac) (ds:List Du):Prop where
 O:OS z.a acs.length z.c 2 z.full (acs.flatMap CX)
 M:Db .u64 (dm ds) z.o
 RO:OS z.ra acs.length z.rc 2 z.rfull (acs.flatMap CX)
 RD:OS z.ad ds.length z.cd 7 z.fd (ds.flatMap CT)
def Af5 (acs:List Ac) (ds:List Du) (nx:Int):Bool:=decide (Eu acs=0) && decide (ofC ds nx=0)
def BothRes (w:World) (acs:List Ac) (ds:List Du) (nx:Int) (v:Value) (w':World):Prop :=
 (Af5 acs ds nx=false∧v = .tuple #[.pointer none,.pointer none,.pointer none,.pointer none,.bool false]∧Ext [] w w') ∨
  (Af5 acs ds nx=true∧∃ z:Four,v = .tuple #[ptr z.bx,ptr z.bd,ptr z.ba,ptr z.br,.bool true]∧z.Ok acs ds∧Ctx w [] w' (z.L acs ds nx))
end Go.Proofs.YtdagmpmdcgedcaaGreat
namespace Go.Proofs.YtdagmpmdcgedcaaGreat
open Go.GV
attribute [local irreducible] AD W Wq Wt
theorem VN {α:Type} (B L R:List α):(B++(L++R)).Perm (L++(B++R)):=by
 classical exact List.perm_iff_count.2 fun x=>by simp only [List.count_append]; omega
theorem Ctx.mid {w0 w w':World} {S:List Nat} {B L L' R:List (Nat × Obj)} (H:Ctx w0 S w (B++(L++R))) (H':Ctx w (L.map (·.1)) w' L'):Ctx w0 S w' (B++(L'++R)) :=
 (Ctx.back (H.perm (VN B L R)) H').perm (VN B L' R).symm
theorem Ctx.in' {w0 w:World} {S:List Nat} {B L R:List (Nat × Obj)} (H:Ctx w0 S w (B++(L++R))):Ctx w (L.map (·.1)) w L:=Ctx.lend (H.perm (VN B L R))
theorem LX.ac {bx:Nat} {a:Option Addr} {c:Nat} {full:List Value} {bd b:Nat} {nx:Int} {o:Obj} {acs:List Ac} {w0 w:World} {S:List Nat} (H:Ctx w0 S w (LX bx a acs.length c full bd b nx o)) (O:OS a acs.length c 2 full (acs.flatMap CX)):AcAt w 162 bx acs :=
 ⟨a,c,H.get at0,OS.rd O (fun x hx=>H.blk x (List.mem_cons_of_mem _ (List.mem_cons_of_mem _ (List.mem_cons_of_mem _ hx)))) (fun _ _=>rfl) (by decide)⟩
theorem LX.du {bx:Nat} {a:Option Addr} {n c:Nat} {full:List Value} {bd b:Nat} {nx:Int} {o:Obj} {ds:List Du} {w0 w:World} {S:List Nat} (H:Ctx w0 S w (LX bx a n c full bd b nx o)) (hM:Db .u64 (dm ds) o):DuAt w bd ds :=
 ⟨b,nx,o,H.get at1,H.get at2,hM⟩
theorem RX.ac {ba:Nat} {a:Option Addr} {c:Nat} {full:List Value} {br:Nat} {ad:Option Addr} {m cd:Nat} {nx:Int} {fd:List Value} {acs:List Ac} {w0 w:World} {S:List Nat} (H:Ctx w0 S w (RX ba a acs.length c full br ad m cd nx fd)) (O:OS a acs.length c 2 full (acs.flatMap CX)):AcAt w 125 ba acs :=
 ⟨a,c,H.get at0,OS.rd O (fun x hx=>H.blk x (List.mem_cons_of_mem _ (List.mem_cons_of_mem _ (List.mem_append_right _ hx)))) (fun _ _=>rfl) (by decide)⟩
theorem RX.du {ba:Nat} {a:Option Addr} {n c:Nat} {full:List Value} {br:Nat} {ad:Option Addr} {cd:Nat} {nx:Int} {fd:List Value} {ds:List Du} {w0 w:World} {S:List Nat} (H:Ctx w0 S w (RX ba a n c full br ad ds.length cd nx fd)) (O:OS ad ds.length cd 7 fd (ds.flatMap CT)):RdAt w br ds :=
 ⟨ad,cd,nx,H.get at1,OS.rd O (fun x hx=>H.blk x (List.mem_cons_of_mem _ (List.mem_cons_of_mem _ (List.mem_append_left _ hx)))) (fun _ _=>rfl) (by decide)⟩
theorem ROff.old {w0 w:World} {S:List Nat} {L:List (Nat × Obj)} {q:RSl} {r:Rnd} (H:Ctx w0 S w L) (h:ROff q r (fun x=>x<w.heap.size)):ROff q r (·∈L.map (·.1)) :=
 h.mono fun x hx=>by
  obtain ⟨y,hy,rfl⟩:=List.mem_map.1 hx;exact Bb (H.blk y hy)
structure RBnd (r:Rnd):Prop where
 N:I64 r.N
 es:r.es.length≤1000000
 ids:r.ids.length≤1000000
 fl:r.fl.length≤1000000
 pot:r.pot.length≤1000000
theorem Ab1 {acs:List Ac} {ds:List Du} {net:Bool} {r:Rnd} (P:PlanR acs ds net r):RBnd r:=by
 obtain ⟨h1,h2,-⟩:=Ga.1 P.chk;obtain ⟨g1,g2,g3,-⟩:=CL (Cx (ET h1).1).2.1;have g4:=(Cx (ET h1).1).1;have g5:=(Lo h2).1;refine ⟨⟨by omega,by omega⟩,by omega,?_,by omega,by omega⟩;rw [P.ids,List.length_map];have:(opn ds).length≤r.es.length:=by rw [P.es,GC]; omega
 omega
theorem Yn {bx bd b c:Nat} {a:Option Addr} {full:List Value} {o:Obj} {acs:List Ac} {ds:List Du} {nx:Int} {r:Rnd} {q:RSl} {w w0:World} {S:List Nat} {B R:List (Nat × Obj)} (ha:Eu acs=0) (hd:ofC ds nx=0) (H:Ctx w0 S w (B++(LX bx a acs.length c full bd b nx o++R))) (O:OS a acs.length c 2 full (acs.flatMap CX)) (hM:Db .u64 (dm ds) o) (RA:RAt w r q) (hoff:ROff q r (·∈(LX bx a acs.length c full bd b nx o).map (·.1))) (hr:RBnd r) :
  Ret Tryz.prog 113 #[ptr bx,ptr bd,.agg (B0 r q).toArray] w fun v w'=>v = .int .i64 (DW acs ds r)∧∃ full' o',OS a acs.length c 2 full' ((DK acs ds r).flatMap CX)∧Db .u64 (dm (D5 acs ds r)) o' ∧
   Ext ((LX bx a acs.length c full bd b nx o).map (·.1)) w w'∧Ctx w0 S w' (B++(LX bx a acs.length c full' bd b nx o'++R)):=by
 refine Ret.mono (Abb ha hd w (Ctx.in' H) O hM RA hoff hr.N hr.es hr.ids hr.fl hr.pot) fun v w' h=>?_;obtain ⟨h1,full',o',O',hM',H'⟩:=h;exact ⟨h1,full',o',O',hM',H'.ext,Ctx.mid H H'⟩
theorem WU {a:Option Addr} {t:TypeId} {f g:List Value}:(ent a t f).map (·.1)=(ent a t g).map (·.1):=by cases a <;> rfl
abbrev xA0:List Ac:=[⟨5,0⟩,⟨0,0⟩]
abbrev xA1:List Ac:=[⟨0,0⟩,⟨5,0⟩]
abbrev xD0:List Du:=[⟨1,0,1,9,1,1,false⟩]
abbrev xD1:List Du:=[⟨1,0,1,4,1,1,false⟩]
abbrev xE0:List Ed:=[⟨0,1,9,-1⟩,⟨2,0,5,0⟩,⟨0,2,4503599627370496,0⟩,⟨2,1,0,0⟩,⟨1,2,4503599627370496,0⟩]
theorem Rl {l:List Int} (h:0<l.length:=by omega):l.take 1=[flE l 0]:=by
 cases l with
 | nil=>exact absurd h (by decide)
 | cons x l=>rfl
end Go.Proofs.YtdagmpmdcgedcaaGreat
namespace Go.Proofs.YtdagmpmdcgedcaaGreat
open Go.GV
attribute [local irreducible] AD W Wq Wt
structure Lm where
 bl:Nat
 ba:Nat
 bd:Nat
 br:Nat
 b:Nat
 a:Option Addr
 c:Nat
 full:List Value
 o:Obj
 arch:List Value
abbrev LL (m:Lm) (s:Ld):List (Nat × Obj):=(m.bl,Bl 106 [ptr m.ba,ptr m.bd,ptr m.br,.int .i64 s.day])::(m.br,Bl 168 m.arch)::LX m.ba m.a s.acs.length m.c m.full m.bd m.b s.nx m.o
abbrev De (m:Lm) (s:Ld):List Nat:=(LL m s).map fun x=>x.1
def KIn (w:World) (arch:List Value) (r:Rnd) (T:Nat→Prop):Prop :=
 ∃ q,(∀ j v,(B0 r q)[j]? = some v→arch[(r.no % 4).toNat*8+j]? = some v)∧RAt w r q∧ROff q r T
structure LdIn (w:World) (m:Lm) (s:Ld) (T:Nat→Prop):Prop where
 O:OS m.a s.acs.length m.c 2 m.full (s.acs.flatMap CX)
 M:Db .u64 (dm s.ds) m.o
 ok:s.Ok
 len:m.arch.length=34
 n:m.arch[32]? = some (.int .u64 s.rn.length)
 no:m.arch[33]? = some (.int .u64 s.no)
 kept:∀ r∈s.rn,KIn w m.arch r T
 own:∀ x∈De m s,T x
 low:∀ x,T x→x<w.heap.size
abbrev Co (k:Ak):List Value:=[.int .u8 k.kd,.int .i64 k.a,.int .i64 k.b,.int .i64 k.x,.int .i64 k.w,.int .i64 k.u,.int .u64 k.id]
theorem Ctx.acs7 {w0 w w':World} {S:List Nat} {P:List (Nat × Obj)} {a:Option Addr} {t:TypeId} {full full':List Value} (H:Ctx w0 S w (P++ent a t full)) (he:Ext ((ent a t full).map fun x=>x.1) w w') (hb:∀ x∈ent a t full',w'.heap[x.1]? = some x.2):Ctx w0 S w' (P++ent a t full'):=by
 have h1:Ctx w ((ent a t full).map fun x=>x.1) w' (ent a t full'):=⟨he,hb,Ge,fun x hx => .inl (by
  rw [WU (f:=full) (g:=full')]
  exact List.mem_map_of_mem (f:=fun x:Nat × Obj=>x.1) hx)⟩
 exact (Ctx.back H.comm h1).comm
theorem LdIn.turn {w w':World} {m m':Lm} {s s':Ld} {T:Nat→Prop} {S:List Nat} (I:LdIn w m s T) (he:Ext S w w') (hs:∀ x∈S,T x) (O:OS m'.a s'.acs.length m'.c 2 m'.full (s'.acs.flatMap CX)) (M:Db .u64 (dm s'.ds) m'.o) (ok:s'.Ok) (ha:m'.arch=m.arch) (hr:s'.rn=s.rn) (hn:s'.no=s.no) (hid:∀ x∈De m' s',(T x∨w.heap.size≤x)∧x<w'.heap.size) :
  LdIn w' m' s' (fun x=>T x∨x∈De m' s') where
 O:=O
 M:=M
 ok:=ok
 len:=by rw [ha]; exact I.len
 n:=by rw [ha,hr]; exact I.n
 no:=by rw [ha,hn]; exact I.no
 kept:=fun r h=>by
  rw [hr] at h;obtain ⟨q,h1,h2,h3⟩:=I.kept r h;rw [ha];exact ⟨q,h1,h2.ext he (h3.mono hs),(h3.or h2.lt).mono fun x hx=>hx.elim .inl fun hx=>(hid x hx).1⟩
 own:=fun x hx => .inr hx
 low:=fun x hx=>hx.elim (fun h=>Nat.lt_of_lt_of_le (I.low x h) he.size) fun h=>(hid x h).2
def Gp (w:World) (m:Lm) (s:Ld) (T:Nat→Prop) (k:Ak) (v:Value) (w':World):Prop :=
 ∃ a n c full code l s' m',v = .tuple #[.slice a n c,.int .i64 code]∧OS a n c 1 full (l.map Dm)∧Cq s k s' (rp l code)∧Ctx w (De m s) w' (LL m' s'++ent a 2 full)∧(∀ x∈ent a 2 full,w.heap.size≤x.1)∧LdIn w' m' s' (fun x=>T x∨x∈De m' s')∧m'.bl=m.bl
theorem DO {w w1 w':World} {m m':Lm} {s s':Ld} {T:Nat→Prop} {k:Ak} {P:List (Nat × Obj)} {a:Option Addr} {n c:Nat} {code:Int} {l:List Int} (I:LdIn w m s T) (H:Ctx w (De m s) w1 (P++LL m' s')) (F:Fresh w1 w' 2 1 (.slice a n c) (l.map Dm)) (hst:Cq s k s' (rp l code))
  (O:OS m'.a s'.acs.length m'.c 2 m'.full (s'.acs.flatMap CX)) (M:Db .u64 (dm s'.ds) m'.o) (ok:s'.Ok) (ha:m'.arch=m.arch) (hr:s'.rn=s.rn) (hn:s'.no=s.no) (hbl:m'.bl=m.bl):Gp w m s T k (.tuple #[.slice a n c,.int .i64 code]) w':=by
 obtain ⟨a',n',c',full,hv,OF,hb⟩:=F.ex;cases hv;have H1:Ctx w (De m s) w1 (LL m' s'):=H.right;have H2:=H1.callEnt F.ext hb Ge;refine ⟨a,n,c,full,code,l,s',m',rfl,OF,hst,H2,fun x hx=>Nat.le_trans H1.size (hb x hx).2,I.turn H2.ext I.own O M ok ha hr hn fun x hx=>?_,hbl⟩;obtain ⟨y,hy,rfl⟩:=List.mem_map.1 hx;exact ⟨(H1.own y hy).imp_left (I.own _),Bb (H2.left.blk y hy)⟩
end Go.Proofs.YtdagmpmdcgedcaaGreat
namespace Go.Proofs.YtdagmpmdcgedcaaGreat
open Go.GV
attribute [local irreducible] AD W Wq Wt
structure AkIn (k:Ak):Prop where
 kd:0≤k.kd∧k.kd≤255
 a:I64 k.a
 b:I64 k.b
 x:I64 k.x
 w:I64 k.w
 u:I64 k.u
 id:0≤k.id∧k.id≤18446744073709551615
theorem G3 {w0 w:World} {b:Nat} {t:TypeId} {l:List Value} {n:Nat} {L:List (Nat × Obj)} (H:Ctx w0 [] w ((b,Bl t l)::L)) (hn:l.length=n):Fresh w0 w t 1 (.slice (some ⟨b,0,none⟩) n n) l:=by
 subst hn;refine ⟨⟨some ⟨b,0,none⟩,l.length,l.length,l,rfl,⟨fun p hp=>?_,fun h=>?_,by rw [Nat.mul_one],Nat.le_refl _,by rw [Nat.mul_one,List.take_length]⟩,fun x hx=>?_⟩,H.ext⟩
 ·cases hp; rfl
 ·cases h
 ·rw [List.mem_singleton.1 hx];exact ⟨H.get at0,(H.own _ (List.mem_cons_self ..)).elim (fun h=>by cases h) id⟩
set_option maxRecDepth 20000 in
set_option maxHeartbeats 1000000 in
theorem NT {bl ba c:Nat} {v1 v2 v3:Value} {a:Option Addr} {acs:List Ac} (k e:Int) (w:World) (hl:w.heap[bl]? = some (Bl 106 [ptr ba,v1,v2,v3])) (hd:AcB ba a acs.length c w) (R:Rd w a 2 CX acs)  (hn:acs.length≤1000000:=by omega):
  Ret Tryz.prog 103 #[ptr bl,.int .i64 k,.int .i64 e] w fun v w'=>∃ a' c',v = .tuple #[.slice a' 2 c',.int .i64 (if e=0∧inA acs k=false then 10 else e)]∧Fresh w w' 2 1 (.slice a' 2 c') ((PX acs k).map Dm):=by
 obtain ⟨w0,rfl⟩:∃ w0,w0=w:=⟨_,rfl⟩;have H:=Ctx.start w0 [];refine Az (fn:=Tryz.f103) Tryz.func103 U [.pointer (some ⟨bl,0,none⟩),.int .i64 k,.int .i64 e] U (by kernel_rfl) ?_;refine Ae (A4 U (Af U (Ab (Aa (Ae (A2 U (AA U (Ah FA U (AV Ip U ((H.old (Aj hl _) (by simp))) ?_)))))))));refine Ad U (Al RU (NR a _ c acs k _ (H.ext.to hd (by simp)) (R.ext0 H.ext) U hn) U ?_);rintro v w ⟨rfl,hx16⟩;replace H:=H.call hx16;refine CA U (AS U U (AS U U (Ba JA H ?_)));rintro b8 w - H;refine Bm DB U U U (by simp [Bg]) H at0 U ?_;rintro w H;refine Ai U (Ab (Aa (Au (Ae (Cb (α:=Unit) 33030144 (fun _=>[(24,.bool (decide (e=0) && !inA acs k))]) (fun _ w'=>Ctx w0 [] w' [(b8,Bl 43 (CX (Ds acs k)))]) U ?_ ?_)))))
 ·refine Ad U (Ct U U (A7 U (AO 21 U ?_ ?_)))
  ·intro h1;replace h1:=AM h1;refine A7 U (BF U (AF U (.bool _) U (Ab ?_)));exact ⟨rfl,(),rfl,⟨congrArg Value.bool (by rw [Bool.eq_iff_iff]; simp_all; try omega),trivial⟩,H⟩
  ·intro h2;replace h2:=AN h2;refine Ag U (Ag U (AG U (.bool _) U (Ab ?_)));exact ⟨rfl,(),rfl,⟨congrArg Value.bool (by rw [Bool.eq_iff_iff]; simp_all; try omega),trivial⟩,H⟩
 rintro - j24 w H;refine Ao _ U ?_ ?_
 ·intro h1;rw [Bool.and_eq_true,decide_eq_true_eq,Bool.not_eq_true'] at h1;rw [if_pos h1];refine Ax (Af U (Ab (Aa (Ae (Ah Ec U (AH Bs U H at0 U (Ah LO U (AH Bs U H at0 U (DE [.int .i64 (Ds acs k).ba,.int .i64 (Ds acs k).re] AU Bz Ei (by decide) (by decide) (by kernel_rfl) H ?_)))))))));rintro b29 w - H;refine Ad U (A4 U (Af U (Ab (Aa (A5 (Ca (v1:=(.slice _ _ _)) (v2:=(.int _ _)) U U U U ?_))))));exact ⟨_,_,rfl,G3 H rfl⟩
 ·intro h1;rw [if_neg (fun h=>by rw [h.2,decide_eq_true h.1] at h1; cases h1)];refine Ap (Aa (Ae (Ah Ec U (AH Bs U H at0 U (Ah LO U (AH Bs U H at0 U (DE [.int .i64 (Ds acs k).ba,.int .i64 (Ds acs k).re] AU Bz Ei (by decide) (by decide) (by kernel_rfl) H ?_)))))));rintro b29 w - H;refine Ad U (A4 U (Af U (Ab (Aa (A5 (Ca (v1:=(.slice _ _ _)) (v2:=(.int _ _)) U U U U ?_))))));exact ⟨_,_,rfl,G3 H rfl⟩
set_option maxRecDepth 20000 in
set_option maxHeartbeats 1000000 in
theorem Ab2 {m:Lm} {s:Ld} {T:Nat→Prop} {k:Ak} (hk:k.kd=2) (hin:AkIn k) (w:World) (I:LdIn w m s T) (H0:Ctx w (De m s) w (LL m s)) :
  Ret Tryz.prog 55 #[ptr m.bl,.agg (Co k).toArray] w (Gp w m s T k):=by
 obtain ⟨w0,rfl⟩:∃ w0,w0=w:=⟨_,rfl⟩;obtain ⟨bl,ba,bd,br,b,a,c,full,o,arch⟩:=m;obtain ⟨S0,hS0⟩:∃ S,S=De ⟨bl,ba,bd,br,b,a,c,full,o,arch⟩ s:=⟨_,rfl⟩;have H:Ctx w0 S0 w0 ((bl,Bl 106 [ptr ba,ptr bd,ptr br,.int .i64 s.day])::(br,Bl 168 arch)::(ba,Bl 162 [.slice a s.acs.length c])::(bd,Bl 165 (DU b s.nx))::(b,o)::ent a 43 full):=by rw [hS0]; exact H0
 have hn16:=(Cd.1 I.ok.ac).1;obtain ⟨hok,hlen,-⟩:=SD I.ok.ac k.a k.x;have hoth:Es s k={ s with acs:=EG s.acs k.a k.x }:=by unfold Es; rw [if_neg (by omega),if_pos hk]
 have hokS:({ s with acs:=EG s.acs k.a k.x }:Ld).Ok:=by rw [← hoth]; exact J6 I.ok k hin.u.2
 have hstep:Cq s k { s with acs:=EG s.acs k.a k.x } (rp (PX (EG s.acs k.a k.x) k.a) (Fu s.acs k.a k.x)):=by
  unfold Cq;rw [if_neg (by omega)];exact ⟨hoth.symm,by unfold EC; rw [if_neg (by omega),if_pos hk]⟩
 have hcode:(if Fu s.acs k.a k.x=0∧inA (EG s.acs k.a k.x) k.a=false then 10 else Fu s.acs k.a k.x)=Fu s.acs k.a k.x:=by
  rw [if_neg];rintro ⟨h1,h2⟩
  rcases Ia s.acs k.a k.x with ⟨h3,-⟩ | ⟨-,h4,-⟩
  ·exact h3 h1
  ·have h5:inA (EG s.acs k.a k.x) k.a=inA s.acs k.a:=by unfold inA; rw [hlen]
   rw [h5,h4] at h2;cases h2
 refine Az (fn:=Tryz.f55) Tryz.func55 U [.pointer (some ⟨bl,0,none⟩),.agg (Co k).toArray] U (by kernel_rfl) ?_;refine Ae (Bx (Co k) (.agg _) U U H ?_);rintro b3 w - H;refine A4 U (Af U (Ab (Aa (Cv [([0,1,2,3,4,5,6,7,8,9,10],11),([],12),([13,14,15],16)] (fun z=>z.heap[b3]? = some (Bl 40 (Co k))∧z.heap[bl]? = some (Bl 106 [ptr ba,ptr bd,ptr br,.int .i64 s.day])) [] Bq (by kernel_rfl) (⟨H.drew.get at0,H.drew.get at1⟩) ?_))));refine AE U U ?_;refine BL U (Am Gh U (Bw BZ U (fun _ hx=>(by rw [Aj hx.1]; rfl)) ?_));refine BL U (Bf U (Am FA U (Bw Ip U (fun _ hx=>(by rw [Aj hx.2]; rfl)) ?_)));refine Am Gh U (Bw BZ U (fun _ hx=>(by rw [Aj hx.1]; rfl)) ?_);refine Am K3 U (Bw Bs U (fun _ hx=>(by rw [Aj hx.1]; rfl)) ?_);refine AP ?_;replace H:=H.drew;refine Al Agm (Abs _ (H.get at3) I.O (fun y hy=>H.blk y (List.mem_append_right [_,_,_,_,_,_] hy)) I.ok.ac) U ?_
 rintro v w ⟨rfl,full',O',hb',he'⟩;replace H:Ctx w0 S0 w ((b3,Bl 40 (Co k))::(bl,Bl 106 [ptr ba,ptr bd,ptr br,.int .i64 s.day])::(br,Bl 168 arch)::(ba,Bl 162 [.slice a (EG s.acs k.a k.x).length c])::(bd,Bl 165 (DU b s.nx))::(b,o)::ent a 43 full'):=(by rw [hlen]; exact Ctx.acs7 (P:=[_,_,_,_,_,_]) H he' hb');replace O':OS a (EG s.acs k.a k.x).length c 2 full' ((EG s.acs k.a k.x).flatMap CX):=(by rw [hlen]; exact O');refine Ab (BT (⟨H.get at0,H.get at1⟩) (AE U U ?_));refine AP (Al RS (NT k.a _ _ (H.get at1) (H.get at3) (OS.rd (t:=43) O' (fun y hy=>H.blk y (List.mem_append_right [_,_,_,_,_,_] hy)) (fun _ _=>rfl) (by decide))) U ?_);rintro v w ⟨a',c',rfl,F⟩;rw [hcode];have H8:=H;replace H:=H.call F.ext;refine Ab (BT (⟨H.get at0,H.get at1⟩) (AE U U ?_))
 refine Bu U U (Bu U U (Em U (AP (Af U (Ab (BT (⟨H.get at0,H.get at1⟩) (BJ (A5 (Ca (v1:=(.slice _ _ _)) (v2:=(.int _ _)) U U U U ?_)))))))));subst hS0;exact DO (P:=[_]) (m':=⟨bl,ba,bd,br,b,a,c,full',o,arch⟩) (s':={ s with acs:=EG s.acs k.a k.x }) I H8 F hstep O' I.M hokS U U U U
set_option maxRecDepth 20000 in
set_option maxHeartbeats 1000000 in
theorem Ab3 {m:Lm} {s:Ld} {T:Nat→Prop} {k:Ak} (hk:k.kd=3) (hin:AkIn k) (w:World) (I:LdIn w m s T) (H0:Ctx w (De m s) w (LL m s)) :
  Ret Tryz.prog 56 #[ptr m.bl,.agg (Co k).toArray] w (Gp w m s T k):=by
 obtain ⟨w0,rfl⟩:∃ w0,w0=w:=⟨_,rfl⟩;obtain ⟨bl,ba,bd,br,b,a,c,full,o,arch⟩:=m;obtain ⟨S0,hS0⟩:∃ S,S=De ⟨bl,ba,bd,br,b,a,c,full,o,arch⟩ s:=⟨_,rfl⟩;have H:Ctx w0 S0 w0 ((bl,Bl 106 [ptr ba,ptr bd,ptr br,.int .i64 s.day])::(br,Bl 168 arch)::(ba,Bl 162 [.slice a s.acs.length c])::(bd,Bl 165 (DU b s.nx))::(b,o)::ent a 43 full):=by rw [hS0]; exact H0
 have hn16:=(Cd.1 I.ok.ac).1;obtain ⟨hok,hlen,-⟩:=SF I.ok.ac k.a k.x;have hoth:Es s k={ s with acs:=EB s.acs k.a k.x }:=by unfold Es; rw [if_neg (by omega),if_neg (by omega),if_pos hk]
 have hokS:({ s with acs:=EB s.acs k.a k.x }:Ld).Ok:=by rw [← hoth]; exact J6 I.ok k hin.u.2
 have hstep:Cq s k { s with acs:=EB s.acs k.a k.x } (rp (PX (EB s.acs k.a k.x) k.a) (EZ s.acs k.a k.x)):=by
  unfold Cq;rw [if_neg (by omega)];exact ⟨hoth.symm,by unfold EC; rw [if_neg (by omega),if_neg (by omega),if_pos hk]⟩
 have hcode:(if EZ s.acs k.a k.x=0∧inA (EB s.acs k.a k.x) k.a=false then 10 else EZ s.acs k.a k.x)=EZ s.acs k.a k.x:=by
  rw [if_neg];rintro ⟨h1,h2⟩
  rcases Ib s.acs k.a k.x with ⟨h3,-⟩ | ⟨-,h4,-⟩
  ·exact h3 h1
  ·have h5:inA (EB s.acs k.a k.x) k.a=inA s.acs k.a:=by unfold inA; rw [hlen]
   rw [h5,h4] at h2;cases h2
 refine Az (fn:=Tryz.f56) Tryz.func56 U [.pointer (some ⟨bl,0,none⟩),.agg (Co k).toArray] U (by kernel_rfl) ?_;refine Ae (Bx (Co k) (.agg _) U U H ?_);rintro b3 w - H;refine A4 U (Af U (Ab (Aa (Cv [([0,1,2,3,4,5,6,7,8,9,10],11),([],12),([13,14,15],16)] (fun z=>z.heap[b3]? = some (Bl 40 (Co k))∧z.heap[bl]? = some (Bl 106 [ptr ba,ptr bd,ptr br,.int .i64 s.day])) [] Bq (by kernel_rfl) (⟨H.drew.get at0,H.drew.get at1⟩) ?_))));refine AE U U ?_;refine BL U (Am Gh U (Bw BZ U (fun _ hx=>(by rw [Aj hx.1]; rfl)) ?_));refine BL U (Bf U (Am FA U (Bw Ip U (fun _ hx=>(by rw [Aj hx.2]; rfl)) ?_)));refine Am Gh U (Bw BZ U (fun _ hx=>(by rw [Aj hx.1]; rfl)) ?_);refine Am K3 U (Bw Bs U (fun _ hx=>(by rw [Aj hx.1]; rfl)) ?_);refine AP ?_;replace H:=H.drew;refine Al Agn (Abt _ (H.get at3) I.O (fun y hy=>H.blk y (List.mem_append_right [_,_,_,_,_,_] hy)) I.ok.ac) U ?_
 rintro v w ⟨rfl,full',O',hb',he'⟩;replace H:Ctx w0 S0 w ((b3,Bl 40 (Co k))::(bl,Bl 106 [ptr ba,ptr bd,ptr br,.int .i64 s.day])::(br,Bl 168 arch)::(ba,Bl 162 [.slice a (EB s.acs k.a k.x).length c])::(bd,Bl 165 (DU b s.nx))::(b,o)::ent a 43 full'):=(by rw [hlen]; exact Ctx.acs7 (P:=[_,_,_,_,_,_]) H he' hb');replace O':OS a (EB s.acs k.a k.x).length c 2 full' ((EB s.acs k.a k.x).flatMap CX):=(by rw [hlen]; exact O');refine Ab (BT (⟨H.get at0,H.get at1⟩) (AE U U ?_));refine AP (Al RS (NT k.a _ _ (H.get at1) (H.get at3) (OS.rd (t:=43) O' (fun y hy=>H.blk y (List.mem_append_right [_,_,_,_,_,_] hy)) (fun _ _=>rfl) (by decide))) U ?_);rintro v w ⟨a',c',rfl,F⟩;rw [hcode];have H8:=H;replace H:=H.call F.ext;refine Ab (BT (⟨H.get at0,H.get at1⟩) (AE U U ?_))
 refine Bu U U (Bu U U (Em U (AP (Af U (Ab (BT (⟨H.get at0,H.get at1⟩) (BJ (A5 (Ca (v1:=(.slice _ _ _)) (v2:=(.int _ _)) U U U U ?_)))))))));subst hS0;exact DO (P:=[_]) (m':=⟨bl,ba,bd,br,b,a,c,full',o,arch⟩) (s':={ s with acs:=EB s.acs k.a k.x }) I H8 F hstep O' I.M hokS U U U U
set_option maxRecDepth 20000 in
set_option maxHeartbeats 1000000 in
theorem Ae0 {m:Lm} {s:Ld} {T:Nat→Prop} {k:Ak} (hk:k.kd=4) (hin:AkIn k) (w:World) (I:LdIn w m s T) (H0:Ctx w (De m s) w (LL m s)) :
  Ret Tryz.prog 57 #[ptr m.bl,.agg (Co k).toArray] w (Gp w m s T k):=by
 obtain ⟨w0,rfl⟩:∃ w0,w0=w:=⟨_,rfl⟩;obtain ⟨bl,ba,bd,br,b,a,c,full,o,arch⟩:=m;obtain ⟨S0,hS0⟩:∃ S,S=De ⟨bl,ba,bd,br,b,a,c,full,o,arch⟩ s:=⟨_,rfl⟩;have H:Ctx w0 S0 w0 ((bl,Bl 106 [ptr ba,ptr bd,ptr br,.int .i64 s.day])::(br,Bl 168 arch)::(ba,Bl 162 [.slice a s.acs.length c])::(bd,Bl 165 (DU b s.nx))::(b,o)::ent a 43 full):=by rw [hS0]; exact H0
 have hn16:=(Cd.1 I.ok.ac).1;obtain ⟨hok,hlen,-⟩:=VG I.ok.ac k.a k.x;have hoth:Es s k={ s with acs:=GX s.acs k.a k.x }:=by unfold Es; rw [if_neg (by omega),if_neg (by omega),if_neg (by omega),if_pos hk]
 have hokS:({ s with acs:=GX s.acs k.a k.x }:Ld).Ok:=by rw [← hoth]; exact J6 I.ok k hin.u.2
 have hstep:Cq s k { s with acs:=GX s.acs k.a k.x } (rp (PX (GX s.acs k.a k.x) k.a) (Mp s.acs k.a k.x)):=by
  unfold Cq;rw [if_neg (by omega)];exact ⟨hoth.symm,by unfold EC; rw [if_neg (by omega),if_neg (by omega),if_neg (by omega),if_pos hk]⟩
 have hcode:(if Mp s.acs k.a k.x=0∧inA (GX s.acs k.a k.x) k.a=false then 10 else Mp s.acs k.a k.x)=Mp s.acs k.a k.x:=by
  rw [if_neg];rintro ⟨h1,h2⟩
  rcases MY s.acs k.a k.x with ⟨h3,-⟩ | ⟨-,h4,-⟩
  ·exact h3 h1
  ·have h5:inA (GX s.acs k.a k.x) k.a=inA s.acs k.a:=by unfold inA; rw [hlen]
   rw [h5,h4] at h2;cases h2
 refine Az (fn:=Tryz.f57) Tryz.func57 U [.pointer (some ⟨bl,0,none⟩),.agg (Co k).toArray] U (by kernel_rfl) ?_;refine Ae (Bx (Co k) (.agg _) U U H ?_);rintro b3 w - H;refine A4 U (Af U (Ab (Aa (Cv [([0,1,2,3,4,5,6,7,8,9,10],11),([],12),([13,14,15],16)] (fun z=>z.heap[b3]? = some (Bl 40 (Co k))∧z.heap[bl]? = some (Bl 106 [ptr ba,ptr bd,ptr br,.int .i64 s.day])) [] Bq (by kernel_rfl) (⟨H.drew.get at0,H.drew.get at1⟩) ?_))));refine AE U U ?_;refine BL U (Am Gh U (Bw BZ U (fun _ hx=>(by rw [Aj hx.1]; rfl)) ?_));refine BL U (Bf U (Am FA U (Bw Ip U (fun _ hx=>(by rw [Aj hx.2]; rfl)) ?_)));refine Am Gh U (Bw BZ U (fun _ hx=>(by rw [Aj hx.1]; rfl)) ?_);refine Am K3 U (Bw Bs U (fun _ hx=>(by rw [Aj hx.1]; rfl)) ?_);refine AP ?_;replace H:=H.drew;refine Al Ago (Aew _ (H.get at3) I.O (fun y hy=>H.blk y (List.mem_append_right [_,_,_,_,_,_] hy)) I.ok.ac) U ?_
 rintro v w ⟨rfl,full',O',hb',he'⟩;replace H:Ctx w0 S0 w ((b3,Bl 40 (Co k))::(bl,Bl 106 [ptr ba,ptr bd,ptr br,.int .i64 s.day])::(br,Bl 168 arch)::(ba,Bl 162 [.slice a (GX s.acs k.a k.x).length c])::(bd,Bl 165 (DU b s.nx))::(b,o)::ent a 43 full'):=(by rw [hlen]; exact Ctx.acs7 (P:=[_,_,_,_,_,_]) H he' hb');replace O':OS a (GX s.acs k.a k.x).length c 2 full' ((GX s.acs k.a k.x).flatMap CX):=(by rw [hlen]; exact O');refine Ab (BT (⟨H.get at0,H.get at1⟩) (AE U U ?_));refine AP (Al RS (NT k.a _ _ (H.get at1) (H.get at3) (OS.rd (t:=43) O' (fun y hy=>H.blk y (List.mem_append_right [_,_,_,_,_,_] hy)) (fun _ _=>rfl) (by decide))) U ?_);rintro v w ⟨a',c',rfl,F⟩;rw [hcode];have H8:=H;replace H:=H.call F.ext;refine Ab (BT (⟨H.get at0,H.get at1⟩) (AE U U ?_))
 refine Bu U U (Bu U U (Em U (AP (Af U (Ab (BT (⟨H.get at0,H.get at1⟩) (BJ (A5 (Ca (v1:=(.slice _ _ _)) (v2:=(.int _ _)) U U U U ?_)))))))));subst hS0;exact DO (P:=[_]) (m':=⟨bl,ba,bd,br,b,a,c,full',o,arch⟩) (s':={ s with acs:=GX s.acs k.a k.x }) I H8 F hstep O' I.M hokS U U U U
end Go.Proofs.YtdagmpmdcgedcaaGreat
namespace Go.Proofs.YtdagmpmdcgedcaaGreat
open Go.GV
attribute [local irreducible] AD W Wq Wt
theorem Ie (w:World):Fresh w w 2 1 (.slice none 0 0) (([]:List Int).map Dm):=Fresh.nil (Ctx.start w []) _ _
theorem Uy {bl ba c:Nat} {v1 v2 v3:Value} {a:Option Addr} {acs:List Ac} (k:Int) (w:World) (hl:w.heap[bl]? = some (Bl 106 [ptr ba,v1,v2,v3])) (hd:AcB ba a acs.length c w) (R:Rd w a 2 CX acs)  (hn:acs.length≤1000000:=by omega):
  Ret Tryz.prog 81 #[ptr bl,.int .i64 k] w fun v w'=>v = .bool (inA acs k)∧Ext [] w w':=by
 obtain ⟨w0,rfl⟩:∃ w0,w0=w:=⟨_,rfl⟩;have H:=Ctx.start w0 [];refine Az (fn:=Tryz.f81) Tryz.func81 U [.pointer (some ⟨bl,0,none⟩),.int .i64 k] U (by kernel_rfl) ?_;refine Ae (Ai U (Ab (Aa (Ae (A2 U (AA U (Ah FA U (AV Ip U ((H.old (Aj hl _) (by simp))) ?_))))))));refine Ad U (Al RU (NR a _ c acs k _ (H.ext.to hd (by simp)) (R.ext0 H.ext) U hn) U ?_);rintro v w ⟨rfl,hx16⟩;replace H:=H.call hx16;refine CA U (AS U U (AS U U (Ba JA H ?_)));rintro b5 w - H;refine Bm DB U U U (by simp [Bg]) H at0 U ?_;rintro w H;refine Ai U (Ab (Aa (Ae (A7 U (Ai U (Ab (Aa (A5 (A9 (v:=(.bool _)) U U U ?_)))))))));exact ⟨rfl,H.ext⟩
set_option maxRecDepth 20000 in
set_option maxHeartbeats 1000000 in
theorem Ab4 {m:Lm} {s:Ld} {T:Nat→Prop} {k:Ak} (hk:k.kd=6) (hin:AkIn k) (w:World) (I:LdIn w m s T) (H0:Ctx w (De m s) w (LL m s)) :
  Ret Tryz.prog 59 #[ptr m.bl,.agg (Co k).toArray] w (Gp w m s T k):=by
 obtain ⟨w0,rfl⟩:∃ w0,w0=w:=⟨_,rfl⟩;obtain ⟨bl,ba,bd,br,b,a,c,full,o,arch⟩:=m;obtain ⟨S0,hS0⟩:∃ S,S=De ⟨bl,ba,bd,br,b,a,c,full,o,arch⟩ s:=⟨_,rfl⟩;have H:Ctx w0 S0 w0 ((bl,Bl 106 [ptr ba,ptr bd,ptr br,.int .i64 s.day])::(br,Bl 168 arch)::(ba,Bl 162 [.slice a s.acs.length c])::(bd,Bl 165 (DU b s.nx))::(b,o)::ent a 43 full):=by rw [hS0]; exact H0
 have hn16:=(Cd.1 I.ok.ac).1;have hbdb:bd≠b:=H.ne (i:=3) (j:=4) rfl rfl (by decide);have hoth:Es s k={ s with ds:=IB s.ds k.id true }:=by unfold Es; rw [if_neg (by omega),if_neg (by omega),if_neg (by omega),if_neg (by omega),if_neg (by omega),if_pos hk]
 have hokS:({ s with ds:=IB s.ds k.id true }:Ld).Ok:=by rw [← hoth]; exact J6 I.ok k hin.u.2
 have hstep:Cq s k { s with ds:=IB s.ds k.id true } (rp [] (Mu s.ds k.id true)):=by
  unfold Cq;rw [if_neg (by omega)];exact ⟨hoth.symm,by unfold EC; rw [if_neg (by omega),if_neg (by omega),if_neg (by omega),if_neg (by omega),if_neg (by omega),if_pos hk]⟩
 refine Az (fn:=Tryz.f59) Tryz.func59 U [.pointer (some ⟨bl,0,none⟩),.agg (Co k).toArray] U (by kernel_rfl) ?_;refine Ae (Bx (Co k) (.agg _) U U H ?_);rintro b3 w - H;refine A4 U (Af U (Ab (Aa (Cv [([0,1,2,3,4,5],6),([7],8)] (fun z=>z.heap[b3]? = some (Bl 40 (Co k))∧z.heap[bl]? = some (Bl 106 [ptr ba,ptr bd,ptr br,.int .i64 s.day])) [6,8] Bq (by kernel_rfl) (⟨H.drew.get at0,H.drew.get at1⟩) ?_))));refine AE U U ?_;refine BL U (Bf U (Am EP U (Bw F7 U (fun _ hx=>(by rw [Aj hx.2]; rfl)) ?_)));refine Am K4 U (Bw B1 U (fun _ hx=>(by rw [Aj hx.1]; rfl)) ?_);refine AP ?_;replace H:=H.drew;refine Al Agq (Aex _ (H.get at4) (H.get at5) I.M hbdb I.ok.du) U ?_;rintro v w ⟨rfl,o',hM',H7⟩;replace H:=Ctx.mid (B:=[_,_,_,_,_]) (L:=[_]) H H7;refine Ab (B4 U (AE U U ?_));refine Em U (AP (Af U (Ab (B4 U (BJ (A5 (Ca (v1:=(.slice _ _ _)) (v2:=(.int _ _)) U U U U ?_)))))));subst hS0
 exact DO (P:=[_]) (m':=⟨bl,ba,bd,br,b,a,c,full,o',arch⟩) (s':={ s with ds:=IB s.ds k.id true }) I H (Ie _) hstep I.O hM' hokS U U U U
set_option maxRecDepth 20000 in
set_option maxHeartbeats 1000000 in
theorem Uz {m:Lm} {s:Ld} {T:Nat→Prop} {k:Ak} (hk:k.kd=7) (hin:AkIn k) (w:World) (I:LdIn w m s T) (H0:Ctx w (De m s) w (LL m s)) :
  Ret Tryz.prog 60 #[ptr m.bl,.agg (Co k).toArray] w (Gp w m s T k):=by
 obtain ⟨w0,rfl⟩:∃ w0,w0=w:=⟨_,rfl⟩;obtain ⟨bl,ba,bd,br,b,a,c,full,o,arch⟩:=m;obtain ⟨S0,hS0⟩:∃ S,S=De ⟨bl,ba,bd,br,b,a,c,full,o,arch⟩ s:=⟨_,rfl⟩;have H:Ctx w0 S0 w0 ((bl,Bl 106 [ptr ba,ptr bd,ptr br,.int .i64 s.day])::(br,Bl 168 arch)::(ba,Bl 162 [.slice a s.acs.length c])::(bd,Bl 165 (DU b s.nx))::(b,o)::ent a 43 full):=by rw [hS0]; exact H0
 have hn16:=(Cd.1 I.ok.ac).1;have hbdb:bd≠b:=H.ne (i:=3) (j:=4) rfl rfl (by decide);have hoth:Es s k={ s with ds:=IB s.ds k.id false }:=by unfold Es; rw [if_neg (by omega),if_neg (by omega),if_neg (by omega),if_neg (by omega),if_neg (by omega),if_neg (by omega),if_pos hk]
 have hokS:({ s with ds:=IB s.ds k.id false }:Ld).Ok:=by rw [← hoth]; exact J6 I.ok k hin.u.2
 have hstep:Cq s k { s with ds:=IB s.ds k.id false } (rp [] (Mu s.ds k.id false)):=by
  unfold Cq;rw [if_neg (by omega)];exact ⟨hoth.symm,by unfold EC; rw [if_neg (by omega),if_neg (by omega),if_neg (by omega),if_neg (by omega),if_neg (by omega),if_neg (by omega),if_pos hk]⟩
 refine Az (fn:=Tryz.f60) Tryz.func60 U [.pointer (some ⟨bl,0,none⟩),.agg (Co k).toArray] U (by kernel_rfl) ?_;refine Ae (Bx (Co k) (.agg _) U U H ?_);rintro b3 w - H;refine A4 U (Af U (Ab (Aa (Cv [([0,1,2,3,4,5],6),([7],8)] (fun z=>z.heap[b3]? = some (Bl 40 (Co k))∧z.heap[bl]? = some (Bl 106 [ptr ba,ptr bd,ptr br,.int .i64 s.day])) [6,8] Bq (by kernel_rfl) (⟨H.drew.get at0,H.drew.get at1⟩) ?_))));refine AE U U ?_;refine BL U (Bf U (Am EP U (Bw F7 U (fun _ hx=>(by rw [Aj hx.2]; rfl)) ?_)));refine Am K4 U (Bw B1 U (fun _ hx=>(by rw [Aj hx.1]; rfl)) ?_);refine AP ?_;replace H:=H.drew;refine Al Agr (VL _ (H.get at4) (H.get at5) I.M hbdb I.ok.du) U ?_;rintro v w ⟨rfl,o',hM',H7⟩;replace H:=Ctx.mid (B:=[_,_,_,_,_]) (L:=[_]) H H7;refine Ab (B4 U (AE U U ?_));refine Em U (AP (Af U (Ab (B4 U (BJ (A5 (Ca (v1:=(.slice _ _ _)) (v2:=(.int _ _)) U U U U ?_)))))));subst hS0
 exact DO (P:=[_]) (m':=⟨bl,ba,bd,br,b,a,c,full,o',arch⟩) (s':={ s with ds:=IB s.ds k.id false }) I H (Ie _) hstep I.O hM' hokS U U U U
set_option maxRecDepth 20000 in
set_option maxHeartbeats 1000000 in
theorem VO {m:Lm} {s:Ld} {T:Nat→Prop} {k:Ak} (hk:k.kd=8) (hin:AkIn k) (w:World) (I:LdIn w m s T) (H0:Ctx w (De m s) w (LL m s)) :
  Ret Tryz.prog 61 #[ptr m.bl,.agg (Co k).toArray] w (Gp w m s T k):=by
 obtain ⟨w0,rfl⟩:∃ w0,w0=w:=⟨_,rfl⟩;obtain ⟨bl,ba,bd,br,b,a,c,full,o,arch⟩:=m;obtain ⟨S0,hS0⟩:∃ S,S=De ⟨bl,ba,bd,br,b,a,c,full,o,arch⟩ s:=⟨_,rfl⟩;have H:Ctx w0 S0 w0 ((bl,Bl 106 [ptr ba,ptr bd,ptr br,.int .i64 s.day])::(br,Bl 168 arch)::(ba,Bl 162 [.slice a s.acs.length c])::(bd,Bl 165 (DU b s.nx))::(b,o)::ent a 43 full):=by rw [hS0]; exact H0
 have hn16:=(Cd.1 I.ok.ac).1;have hbdb:bd≠b:=H.ne (i:=3) (j:=4) rfl rfl (by decide);have hoth:Es s k={ s with ds:=SG s.ds k.id }:=by unfold Es; rw [if_neg (by omega),if_neg (by omega),if_neg (by omega),if_neg (by omega),if_neg (by omega),if_neg (by omega),if_neg (by omega),if_pos hk]
 have hokS:({ s with ds:=SG s.ds k.id }:Ld).Ok:=by rw [← hoth]; exact J6 I.ok k hin.u.2
 have hstep:Cq s k { s with ds:=SG s.ds k.id } (rp [] (PW s.ds k.id)):=by
  unfold Cq;rw [if_neg (by omega)];exact ⟨hoth.symm,by unfold EC; rw [if_neg (by omega),if_neg (by omega),if_neg (by omega),if_neg (by omega),if_neg (by omega),if_neg (by omega),if_neg (by omega),if_pos hk]⟩
 refine Az (fn:=Tryz.f61) Tryz.func61 U [.pointer (some ⟨bl,0,none⟩),.agg (Co k).toArray] U (by kernel_rfl) ?_;refine Ae (Bx (Co k) (.agg _) U U H ?_);rintro b3 w - H;refine A4 U (Af U (Ab (Aa (Cv [([0,1,2,3,4,5],6),([7],8)] (fun z=>z.heap[b3]? = some (Bl 40 (Co k))∧z.heap[bl]? = some (Bl 106 [ptr ba,ptr bd,ptr br,.int .i64 s.day])) [6,8] Bq (by kernel_rfl) (⟨H.drew.get at0,H.drew.get at1⟩) ?_))));refine AE U U ?_;refine BL U (Bf U (Am EP U (Bw F7 U (fun _ hx=>(by rw [Aj hx.2]; rfl)) ?_)));refine Am K4 U (Bw B1 U (fun _ hx=>(by rw [Aj hx.1]; rfl)) ?_);refine AP ?_;replace H:=H.drew;refine Al Ags (Yl _ (H.get at4) (H.get at5) I.M hbdb I.ok.du) U ?_;rintro v w ⟨rfl,o',hM',H7⟩;replace H:=Ctx.mid (B:=[_,_,_,_,_]) (L:=[_]) H H7;refine Ab (B4 U (AE U U ?_));refine Em U (AP (Af U (Ab (B4 U (BJ (A5 (Ca (v1:=(.slice _ _ _)) (v2:=(.int _ _)) U U U U ?_)))))));subst hS0
 exact DO (P:=[_]) (m':=⟨bl,ba,bd,br,b,a,c,full,o',arch⟩) (s':={ s with ds:=SG s.ds k.id }) I H (Ie _) hstep I.O hM' hokS U U U U
set_option maxRecDepth 20000 in
set_option maxHeartbeats 1000000 in
theorem Ab5 {m:Lm} {s:Ld} {T:Nat→Prop} {k:Ak} (hk:k.kd=12) (_hin:AkIn k) (w:World) (I:LdIn w m s T) (H0:Ctx w (De m s) w (LL m s)) :
  Ret Tryz.prog 64 #[ptr m.bl,.agg (Co k).toArray] w (Gp w m s T k):=by
 obtain ⟨w0,rfl⟩:∃ w0,w0=w:=⟨_,rfl⟩;obtain ⟨bl,ba,bd,br,b,a,c,full,o,arch⟩:=m;obtain ⟨S0,hS0⟩:∃ S,S=De ⟨bl,ba,bd,br,b,a,c,full,o,arch⟩ s:=⟨_,rfl⟩;have H:Ctx w0 S0 w0 ((bl,Bl 106 [ptr ba,ptr bd,ptr br,.int .i64 s.day])::(br,Bl 168 arch)::(ba,Bl 162 [.slice a s.acs.length c])::(bd,Bl 165 (DU b s.nx))::(b,o)::ent a 43 full):=by rw [hS0]; exact H0
 have hn16:=(Cd.1 I.ok.ac).1;have hbdb:bd≠b:=H.ne (i:=3) (j:=4) rfl rfl (by decide)
 have hstep:Cq s k s (rp (PX s.acs k.a) (if (0:Int)=0∧inA s.acs k.a=false then 10 else 0)):=by
  unfold Cq;rw [if_neg (by omega)];have hR:EC s k=if inA s.acs k.a=true then ⟨0,PX s.acs k.a⟩ else ⟨10,[]⟩:=by unfold EC; rw [if_neg (by omega),if_neg (by omega),if_neg (by omega),if_neg (by omega),if_neg (by omega),if_neg (by omega),if_neg (by omega),if_neg (by omega),if_neg (by omega),if_pos hk]
  refine ⟨by unfold Es; rw [if_neg (by omega),if_neg (by omega),if_neg (by omega),if_neg (by omega),if_neg (by omega),if_neg (by omega),if_neg (by omega),if_neg (by omega),if_neg (by omega)],?_⟩;rw [hR]
  cases inA s.acs k.a with
  | true=>rfl
  | false=>rfl
 refine Az (fn:=Tryz.f64) Tryz.func64 U [.pointer (some ⟨bl,0,none⟩),.agg (Co k).toArray] U (by kernel_rfl) ?_;refine Ae (Bx (Co k) (.agg _) U U H ?_);rintro b3 w - H;refine A4 U (Af U (Ab (Aa (Ae (A2 U (Ah Gh U (AH BZ U H at0 U (Al RS (NT k.a _ _ (H.get at1) (H.get at3) (OS.rd (t:=43) I.O (fun y hy=>H.blk y (List.mem_append_right [_,_,_,_,_,_] hy)) (fun _ _=>rfl) (by decide))) U ?_))))))));rintro v w ⟨a',c',rfl,F⟩;have H8:=H;replace H:=H.call F.ext;refine AS U U (AS U U (A4 U (Af U (Ab (Aa (A5 (Ca (v1:=(.slice _ _ _)) (v2:=(.int _ _)) U U U U ?_)))))));subst hS0;exact DO (P:=[_]) (m':=⟨bl,ba,bd,br,b,a,c,full,o,arch⟩) (s':=s) I H8 F hstep I.O I.M I.ok U U U U
def OpnR (w0:World) (S0:List Nat) (w:World) (s:Ld) (arch:List Value) (b3:Nat) (e3:List Value) (bl ba bd br b c:Nat) (a:Option Addr) (full:List Value) (o:Obj) (i' code:Int):Prop :=
 (16≤s.acs.length∧code=6∧Ctx w0 S0 w ((b3,Bl 40 e3)::(bl,Bl 106 [ptr ba,ptr bd,ptr br,.int .i64 s.day])::(br,Bl 168 arch)::LX ba a s.acs.length c full bd b s.nx o)) ∨
 (s.acs.length<16∧i'=(s.acs.length:Int)∧code=0∧∃ a' c' full',OS a' (s.acs++[a00]).length c' 2 full' ((s.acs++[a00]).flatMap CX)∧Ctx w0 S0 w ((b3,Bl 40 e3)::(bl,Bl 106 [ptr ba,ptr bd,ptr br,.int .i64 s.day])::(br,Bl 168 arch)::LX ba a' (s.acs++[a00]).length c' full' bd b s.nx o))
theorem Ab6 {w0 w w':World} {S0:List Nat} {s:Ld} {arch:List Value} {b3 bl ba bd br b c:Nat} {e3:List Value} {a:Option Addr} {full:List Value} {o:Obj} {v:Value} (H:Ctx w0 S0 w ((b3,Bl 40 e3)::(bl,Bl 106 [ptr ba,ptr bd,ptr br,.int .i64 s.day])::(br,Bl 168 arch)::LX ba a s.acs.length c full bd b s.nx o))
  (h:(16≤s.acs.length→v = .tuple #[.int .i64 0,.int .i64 6]∧Ctx w ((AL ba (bd,Bl 165 (DU b s.nx)) (b,o) a s.acs.length c full).map fun x=>x.1) w' (AL ba (bd,Bl 165 (DU b s.nx)) (b,o) a s.acs.length c full)) ∧
   (s.acs.length<16→v = .tuple #[.int .i64 (s.acs.length:Int),.int .i64 0]∧∃ a' c' full',OS a' (s.acs++[a00]).length c' 2 full' ((s.acs++[a00]).flatMap CX)∧Ctx w ((AL ba (bd,Bl 165 (DU b s.nx)) (b,o) a s.acs.length c full).map fun x=>x.1) w' (AL ba (bd,Bl 165 (DU b s.nx)) (b,o) a' (s.acs++[a00]).length c' full'))) :
  ∃ i' code,v = .tuple #[.int .i64 i',.int .i64 code]∧OpnR w0 S0 w' s arch b3 e3 bl ba bd br b c a full o i' code:=by
 have hb:∀ {L':List (Nat × Obj)},Ctx w ((AL ba (bd,Bl 165 (DU b s.nx)) (b,o) a s.acs.length c full).map fun x=>x.1) w' L'→Ctx w0 S0 w' ([(b3,Bl 40 e3),(bl,Bl 106 [ptr ba,ptr bd,ptr br,.int .i64 s.day]),(br,Bl 168 arch)]++L'):=fun {L'} h1=>(Ctx.back (L1:=AL ba (bd,Bl 165 (DU b s.nx)) (b,o) a s.acs.length c full) (L2:=[_,_,_]) (H.comm (L:=[_,_,_])) h1).comm
 rcases Nat.lt_or_ge s.acs.length 16 with h16 | h16
 ·obtain ⟨rfl,a',c',full',O',H1⟩:=h.2 h16;exact ⟨_,_,rfl,.inr ⟨h16,rfl,rfl,a',c',full',O',hb H1⟩⟩
 ·obtain ⟨rfl,H1⟩:=h.1 h16;exact ⟨_,_,rfl,.inl ⟨h16,rfl,hb H1⟩⟩
set_option maxRecDepth 20000 in
set_option maxHeartbeats 1000000 in
theorem Ab7 {m:Lm} {s:Ld} {T:Nat→Prop} {k:Ak} (hk:k.kd=1) (hin:AkIn k) (w:World) (I:LdIn w m s T) (H0:Ctx w (De m s) w (LL m s)) :
  Ret Tryz.prog 54 #[ptr m.bl,.agg (Co k).toArray] w (Gp w m s T k):=by
 obtain ⟨w0,rfl⟩:∃ w0,w0=w:=⟨_,rfl⟩;obtain ⟨bl,ba,bd,br,b,a,c,full,o,arch⟩:=m;obtain ⟨S0,hS0⟩:∃ S,S=De ⟨bl,ba,bd,br,b,a,c,full,o,arch⟩ s:=⟨_,rfl⟩;have H:Ctx w0 S0 w0 ((bl,Bl 106 [ptr ba,ptr bd,ptr br,.int .i64 s.day])::(br,Bl 168 arch)::(ba,Bl 162 [.slice a s.acs.length c])::(bd,Bl 165 (DU b s.nx))::(b,o)::ent a 43 full):=by rw [hS0]; exact H0
 have hn16:=(Cd.1 I.ok.ac).1;have hbdb:bd≠b:=H.ne (i:=3) (j:=4) rfl rfl (by decide)
 have hstep:∀ l,(s.acs.length<16→l=[(s.acs.length:Int)])→Cq s k (Es s k) (rp l (if s.acs.length<16 then 0 else 6)):=fun l hl=>by
  unfold Cq;rw [if_neg (by omega)];refine ⟨rfl,?_⟩;unfold EC;rw [if_pos hk]
  by_cases h:s.acs.length<16
  ·rw [if_pos h,hl h]
  ·rw [if_neg h,Rb (by decide),Rb (by decide)]
 have hokS:=J6 I.ok k hin.u.2;have hoth:Es s k=if s.acs.length<16 then { s with acs:=s.acs++[a00] } else s:=by unfold Es; rw [if_pos hk]
 refine Az (fn:=Tryz.f54) Tryz.func54 U [.pointer (some ⟨bl,0,none⟩),.agg (Co k).toArray] U (by kernel_rfl) ?_;refine Ae (Bx (Co k) (.agg _) U U H ?_);rintro b3 w - H;refine A4 U (Af U (Ab (Aa (Ae (A2 U (AA U (Ah FA U (AH Ip U H at1 U ?_))))))));have HL:=Ctx.lend (L1:=AL ba (bd,Bl 165 (DU b s.nx)) (b,o) a s.acs.length c full) (L2:=[(b3,Bl 40 (Co k)),(bl,Bl 106 [ptr ba,ptr bd,ptr br,.int .i64 s.day]),(br,Bl 168 arch)]) (H.comm (L:=[_,_,_]));refine Al Agl (Yi HL I.O) U ?_;rintro v w hres;obtain ⟨i',code,rfl,hr⟩:∃ i' code,v = .tuple #[.int .i64 i',.int .i64 code]∧OpnR w0 S0 w s arch b3 (Co k) bl ba bd br b c a full o i' code:=Ab6 H hres;refine CA U (AS U U (AS U U (Af U (Af U (Ab (Aa (Ae (Ad U ?_))))))));have H:=Ctx.start w [];refine Cj [.int .i64 i'] (.int .i64 i') AU Bz Ei U (by decide) (by decide) U U U H ?_;rintro b17 w2 - H17
 refine Ad U (A4 U (Af U (Ab (Aa (A5 (Ca (v1:=(.slice _ _ _)) (v2:=(.int _ _)) U U U U ?_))))));subst hS0
 rcases hr with ⟨h16,rfl,H1⟩ | ⟨h16,rfl,rfl,a',c',full',O',H1⟩
 ·rw [hoth,if_neg (by omega)] at hokS hstep;rw [if_neg (by omega)] at hstep;exact DO (P:=[_]) (m':=⟨bl,ba,bd,br,b,a,c,full,o,arch⟩) (s':=s) (l:=[i']) I H1 (G3 (n:=1) (l:=[Dm i']) H17 U) (hstep [i'] fun h=>by omega) I.O I.M I.ok U U U U
 ·rw [hoth,if_pos h16] at hokS hstep;rw [if_pos h16] at hstep;exact DO (P:=[_]) (m':=⟨bl,ba,bd,br,b,a',c',full',o,arch⟩) (s':={ s with acs:=s.acs++[a00] }) (l:=[(s.acs.length:Int)]) I H1 (G3 (n:=1) (l:=[Dm (s.acs.length:Int)]) H17 U) (hstep [_] fun _=>rfl) O' I.M hokS U U U U
end Go.Proofs.YtdagmpmdcgedcaaGreat
