/- Part 12 of the proof. -/
import Derived.Test.YtdagmpmdcgedcaaGreatPart2
import Derived.Test.YtdagmpmdcgedcaaGreatPart11
import Derived.Test.YtdagmpmdcgedcaaGreatPart4
import Derived.Test.YtdagmpmdcgedcaaGreatPart9
import Derived.Test.YtdagmpmdcgedcaaGreatPart10
import Derived.Test.YtdagmpmdcgedcaaGreatPart3
/- The ledger: open, hold, release, cancel, look, bank (printed by gen/genLeR.py). -/
namespace Go.Proofs.YtdagmpmdcgedcaaGreat
open Go.GV
attribute [local irreducible] AB W Wq Wt

theorem Hr (w:World):Fresh w w 2 1 (.slice none 0 0) (([]:List Int).map Dq):=Fresh.nil (Ctx.start w []) _ _
theorem Sz {bl ba c:Nat} {v1 v2 v3:Value} {a:Option Addr} {acs:List Ac} (k:Int) (w:World) (hl:w.heap[bl]? = some (Bl 106 [ptr ba,v1,v2,v3])) (hd:AcB ba a acs.length c w) (R:Rd w a 2 CP acs) (hn:acs.length≤1000000) :
  Ret Tryz.prog 81 #[ptr bl,.int .i64 k] w fun v w'=>v = .bool (inA acs k)∧Ext [] w w':=by
 obtain ⟨w0,rfl⟩:∃ w0,w0=w:=⟨_,rfl⟩;have H:=Ctx.start w0 [];refine Au (fn:=Tryz.f81) Tryz.func81 U [.pointer (some ⟨bl,0,none⟩),.int .i64 k] U (by kernel_rfl) ?_;refine Ad (Ai U U (Ab (Aa (Ad (A3 U U (A8 U U (Ah U FD U (Bd U Ic U ((H.old (Aj hl _) (by simp))) ?_))))))));refine Af U U (Al U PJ (MO a _ c acs k _ (H.ext.to hd (by simp)) (R.ext0 H.ext) U hn) U ?_);rintro v w ⟨rfl,hx16⟩;replace H:=H.call hx16;refine C0 U U (AO U U U (AO U U U (AZ U IX H ?_)));rintro b5 w - H;refine Bn U Ek U U U (by simp [Be]) H at0 U ?_;rintro w H;refine Ai U U (Ab (Aa (Ad (A7 U U (Ai U U (Ab (Aa (A5 (AA (v:=(.bool _)) U U U ?_)))))))));exact ⟨rfl,H.ext⟩
set_option maxRecDepth 20000 in
set_option maxHeartbeats 1000000 in
theorem Zw {m:Lm} {s:Ld} {T:Nat→Prop} {k:Ak} (hk:k.kd=6) (hin:AkIn k) (w:World) (I:LdIn w m s T) (H0:Ctx w (Di m s) w (LL m s)) :
  Ret Tryz.prog 59 #[ptr m.bl,.agg (Cd k).toArray] w (FP w m s T k):=by
 obtain ⟨w0,rfl⟩:∃ w0,w0=w:=⟨_,rfl⟩;obtain ⟨bl,ba,bd,br,b,a,c,full,o,arch⟩:=m;obtain ⟨S0,hS0⟩:∃ S,S=Di ⟨bl,ba,bd,br,b,a,c,full,o,arch⟩ s:=⟨_,rfl⟩;have H:Ctx w0 S0 w0 ((bl,Bl 106 [ptr ba,ptr bd,ptr br,.int .i64 s.day])::(br,Bl 168 arch)::(ba,Bl 162 [.slice a s.acs.length c])::(bd,Bl 165 (DU b s.nx))::(b,o)::ent a 43 full):=by rw [hS0]; exact H0
 have hn16:=(Ch.1 I.ok.ac).1;have hbdb:bd≠b:=H.ne (i:=3) (j:=4) rfl rfl (by decide);have hoth:EI s k={ s with ds:=HU s.ds k.id true }:=by unfold EI; rw [if_neg (by omega),if_neg (by omega),if_neg (by omega),if_neg (by omega),if_neg (by omega),if_pos hk]
 have hokS:({ s with ds:=HU s.ds k.id true }:Ld).Ok:=by rw [← hoth]; exact IQ I.ok k hin.u.2
 have hstep:CR s k { s with ds:=HU s.ds k.id true } (rp [] (Lw s.ds k.id true)):=by
  unfold CR;rw [if_neg (by omega)];exact ⟨hoth.symm,by unfold Fe; rw [if_neg (by omega),if_neg (by omega),if_neg (by omega),if_neg (by omega),if_neg (by omega),if_pos hk]⟩
 refine Au (fn:=Tryz.f59) Tryz.func59 U [.pointer (some ⟨bl,0,none⟩),.agg (Cd k).toArray] U (by kernel_rfl) ?_;refine Ad (Bu U (Cd k) (.agg _) U U H ?_);rintro b3 w - H;refine A1 U U (Ae U U (Ab (Aa (Cv [([0,1,2,3,4,5],6),([7],8)] (fun z=>z.heap[b3]? = some (Bl 40 (Cd k))∧z.heap[bl]? = some (Bl 106 [ptr ba,ptr bd,ptr br,.int .i64 s.day])) [6,8] Bq (by kernel_rfl) (⟨H.drew.get at0,H.drew.get at1⟩) ?_))));refine AH U U ?_;refine BQ U U (Bg U U (An U Ff U (B0 U FA U (fun _ hx=>(by rw [Aj hx.2]; rfl)) ?_)));refine An U JE U (B0 U B2 U (fun _ hx=>(by rw [Aj hx.1]; rfl)) ?_);refine AS ?_;replace H:=H.drew;refine Al U Adj (Abp _ (H.get at4) (H.get at5) I.M hbdb I.ok.du) U ?_;rintro v w ⟨rfl,o',hM',H7⟩;replace H:=Ctx.mid (B:=[_,_,_,_,_]) (L:=[_]) H H7;refine Ab (B3 U (AH U U ?_));refine DX U U (AS (Ae U U (Ab (B3 U (BJ (A5 (BR (v1:=(.slice _ _ _)) (v2:=(.int _ _)) U U U U ?_)))))));subst hS0
 exact D9 (P:=[_]) (m':=⟨bl,ba,bd,br,b,a,c,full,o',arch⟩) (s':={ s with ds:=HU s.ds k.id true }) I H (Hr _) hstep I.O hM' hokS U U U U
set_option maxRecDepth 20000 in
set_option maxHeartbeats 1000000 in
theorem S1 {m:Lm} {s:Ld} {T:Nat→Prop} {k:Ak} (hk:k.kd=7) (hin:AkIn k) (w:World) (I:LdIn w m s T) (H0:Ctx w (Di m s) w (LL m s)) :
  Ret Tryz.prog 60 #[ptr m.bl,.agg (Cd k).toArray] w (FP w m s T k):=by
 obtain ⟨w0,rfl⟩:∃ w0,w0=w:=⟨_,rfl⟩;obtain ⟨bl,ba,bd,br,b,a,c,full,o,arch⟩:=m;obtain ⟨S0,hS0⟩:∃ S,S=Di ⟨bl,ba,bd,br,b,a,c,full,o,arch⟩ s:=⟨_,rfl⟩;have H:Ctx w0 S0 w0 ((bl,Bl 106 [ptr ba,ptr bd,ptr br,.int .i64 s.day])::(br,Bl 168 arch)::(ba,Bl 162 [.slice a s.acs.length c])::(bd,Bl 165 (DU b s.nx))::(b,o)::ent a 43 full):=by rw [hS0]; exact H0
 have hn16:=(Ch.1 I.ok.ac).1;have hbdb:bd≠b:=H.ne (i:=3) (j:=4) rfl rfl (by decide);have hoth:EI s k={ s with ds:=HU s.ds k.id false }:=by unfold EI; rw [if_neg (by omega),if_neg (by omega),if_neg (by omega),if_neg (by omega),if_neg (by omega),if_neg (by omega),if_pos hk]
 have hokS:({ s with ds:=HU s.ds k.id false }:Ld).Ok:=by rw [← hoth]; exact IQ I.ok k hin.u.2
 have hstep:CR s k { s with ds:=HU s.ds k.id false } (rp [] (Lw s.ds k.id false)):=by
  unfold CR;rw [if_neg (by omega)];exact ⟨hoth.symm,by unfold Fe; rw [if_neg (by omega),if_neg (by omega),if_neg (by omega),if_neg (by omega),if_neg (by omega),if_neg (by omega),if_pos hk]⟩
 refine Au (fn:=Tryz.f60) Tryz.func60 U [.pointer (some ⟨bl,0,none⟩),.agg (Cd k).toArray] U (by kernel_rfl) ?_;refine Ad (Bu U (Cd k) (.agg _) U U H ?_);rintro b3 w - H;refine A1 U U (Ae U U (Ab (Aa (Cv [([0,1,2,3,4,5],6),([7],8)] (fun z=>z.heap[b3]? = some (Bl 40 (Cd k))∧z.heap[bl]? = some (Bl 106 [ptr ba,ptr bd,ptr br,.int .i64 s.day])) [6,8] Bq (by kernel_rfl) (⟨H.drew.get at0,H.drew.get at1⟩) ?_))));refine AH U U ?_;refine BQ U U (Bg U U (An U Ff U (B0 U FA U (fun _ hx=>(by rw [Aj hx.2]; rfl)) ?_)));refine An U JE U (B0 U B2 U (fun _ hx=>(by rw [Aj hx.1]; rfl)) ?_);refine AS ?_;replace H:=H.drew;refine Al U Adk (TZ _ (H.get at4) (H.get at5) I.M hbdb I.ok.du) U ?_;rintro v w ⟨rfl,o',hM',H7⟩;replace H:=Ctx.mid (B:=[_,_,_,_,_]) (L:=[_]) H H7;refine Ab (B3 U (AH U U ?_));refine DX U U (AS (Ae U U (Ab (B3 U (BJ (A5 (BR (v1:=(.slice _ _ _)) (v2:=(.int _ _)) U U U U ?_)))))));subst hS0
 exact D9 (P:=[_]) (m':=⟨bl,ba,bd,br,b,a,c,full,o',arch⟩) (s':={ s with ds:=HU s.ds k.id false }) I H (Hr _) hstep I.O hM' hokS U U U U
set_option maxRecDepth 20000 in
set_option maxHeartbeats 1000000 in
theorem Uc {m:Lm} {s:Ld} {T:Nat→Prop} {k:Ak} (hk:k.kd=8) (hin:AkIn k) (w:World) (I:LdIn w m s T) (H0:Ctx w (Di m s) w (LL m s)) :
  Ret Tryz.prog 61 #[ptr m.bl,.agg (Cd k).toArray] w (FP w m s T k):=by
 obtain ⟨w0,rfl⟩:∃ w0,w0=w:=⟨_,rfl⟩;obtain ⟨bl,ba,bd,br,b,a,c,full,o,arch⟩:=m;obtain ⟨S0,hS0⟩:∃ S,S=Di ⟨bl,ba,bd,br,b,a,c,full,o,arch⟩ s:=⟨_,rfl⟩;have H:Ctx w0 S0 w0 ((bl,Bl 106 [ptr ba,ptr bd,ptr br,.int .i64 s.day])::(br,Bl 168 arch)::(ba,Bl 162 [.slice a s.acs.length c])::(bd,Bl 165 (DU b s.nx))::(b,o)::ent a 43 full):=by rw [hS0]; exact H0
 have hn16:=(Ch.1 I.ok.ac).1;have hbdb:bd≠b:=H.ne (i:=3) (j:=4) rfl rfl (by decide);have hoth:EI s k={ s with ds:=Qx s.ds k.id }:=by unfold EI; rw [if_neg (by omega),if_neg (by omega),if_neg (by omega),if_neg (by omega),if_neg (by omega),if_neg (by omega),if_neg (by omega),if_pos hk]
 have hokS:({ s with ds:=Qx s.ds k.id }:Ld).Ok:=by rw [← hoth]; exact IQ I.ok k hin.u.2
 have hstep:CR s k { s with ds:=Qx s.ds k.id } (rp [] (Oi s.ds k.id)):=by
  unfold CR;rw [if_neg (by omega)];exact ⟨hoth.symm,by unfold Fe; rw [if_neg (by omega),if_neg (by omega),if_neg (by omega),if_neg (by omega),if_neg (by omega),if_neg (by omega),if_neg (by omega),if_pos hk]⟩
 refine Au (fn:=Tryz.f61) Tryz.func61 U [.pointer (some ⟨bl,0,none⟩),.agg (Cd k).toArray] U (by kernel_rfl) ?_;refine Ad (Bu U (Cd k) (.agg _) U U H ?_);rintro b3 w - H;refine A1 U U (Ae U U (Ab (Aa (Cv [([0,1,2,3,4,5],6),([7],8)] (fun z=>z.heap[b3]? = some (Bl 40 (Cd k))∧z.heap[bl]? = some (Bl 106 [ptr ba,ptr bd,ptr br,.int .i64 s.day])) [6,8] Bq (by kernel_rfl) (⟨H.drew.get at0,H.drew.get at1⟩) ?_))));refine AH U U ?_;refine BQ U U (Bg U U (An U Ff U (B0 U FA U (fun _ hx=>(by rw [Aj hx.2]; rfl)) ?_)));refine An U JE U (B0 U B2 U (fun _ hx=>(by rw [Aj hx.1]; rfl)) ?_);refine AS ?_;replace H:=H.drew;refine Al U Adl (W6 _ (H.get at4) (H.get at5) I.M hbdb I.ok.du) U ?_;rintro v w ⟨rfl,o',hM',H7⟩;replace H:=Ctx.mid (B:=[_,_,_,_,_]) (L:=[_]) H H7;refine Ab (B3 U (AH U U ?_));refine DX U U (AS (Ae U U (Ab (B3 U (BJ (A5 (BR (v1:=(.slice _ _ _)) (v2:=(.int _ _)) U U U U ?_)))))));subst hS0
 exact D9 (P:=[_]) (m':=⟨bl,ba,bd,br,b,a,c,full,o',arch⟩) (s':={ s with ds:=Qx s.ds k.id }) I H (Hr _) hstep I.O hM' hokS U U U U
set_option maxRecDepth 20000 in
set_option maxHeartbeats 1000000 in
theorem Zx {m:Lm} {s:Ld} {T:Nat→Prop} {k:Ak} (hk:k.kd=12) (hin:AkIn k) (w:World) (I:LdIn w m s T) (H0:Ctx w (Di m s) w (LL m s)) :
  Ret Tryz.prog 64 #[ptr m.bl,.agg (Cd k).toArray] w (FP w m s T k):=by
 obtain ⟨w0,rfl⟩:∃ w0,w0=w:=⟨_,rfl⟩;obtain ⟨bl,ba,bd,br,b,a,c,full,o,arch⟩:=m;obtain ⟨S0,hS0⟩:∃ S,S=Di ⟨bl,ba,bd,br,b,a,c,full,o,arch⟩ s:=⟨_,rfl⟩;have H:Ctx w0 S0 w0 ((bl,Bl 106 [ptr ba,ptr bd,ptr br,.int .i64 s.day])::(br,Bl 168 arch)::(ba,Bl 162 [.slice a s.acs.length c])::(bd,Bl 165 (DU b s.nx))::(b,o)::ent a 43 full):=by rw [hS0]; exact H0
 have hn16:=(Ch.1 I.ok.ac).1;have hbdb:bd≠b:=H.ne (i:=3) (j:=4) rfl rfl (by decide)
 have hstep:CR s k s (rp (Ol s.acs k.a) (if (0:Int)=0∧inA s.acs k.a=false then 10 else 0)):=by
  unfold CR;rw [if_neg (by omega)];have hR:Fe s k=if inA s.acs k.a=true then ⟨0,Ol s.acs k.a⟩ else ⟨10,[]⟩:=by unfold Fe; rw [if_neg (by omega),if_neg (by omega),if_neg (by omega),if_neg (by omega),if_neg (by omega),if_neg (by omega),if_neg (by omega),if_neg (by omega),if_neg (by omega),if_pos hk]
  refine ⟨by unfold EI; rw [if_neg (by omega),if_neg (by omega),if_neg (by omega),if_neg (by omega),if_neg (by omega),if_neg (by omega),if_neg (by omega),if_neg (by omega),if_neg (by omega)],?_⟩;rw [hR]
  cases inA s.acs k.a with
  | true=>rfl
  | false=>rfl
 refine Au (fn:=Tryz.f64) Tryz.func64 U [.pointer (some ⟨bl,0,none⟩),.agg (Cd k).toArray] U (by kernel_rfl) ?_;refine Ad (Bu U (Cd k) (.agg _) U U H ?_);rintro b3 w - H;refine A1 U U (Ae U U (Ab (Aa (Ad (A3 U U (Ah U FG U (AE U BS U H at0 U (Al U PH (MP k.a _ _ (H.get at1) (H.get at3) (OS.rd (t:=43) I.O (fun y hy=>H.blk y (List.mem_append_right [_,_,_,_,_,_] hy)) (fun _ _=>rfl) (by decide)) (by omega)) U ?_))))))));rintro v w ⟨a',c',rfl,F⟩;have H8:=H;replace H:=H.call F.ext;refine AO U U U (AO U U U (A1 U U (Ae U U (Ab (Aa (A5 (BR (v1:=(.slice _ _ _)) (v2:=(.int _ _)) U U U U ?_)))))));subst hS0;exact D9 (P:=[_]) (m':=⟨bl,ba,bd,br,b,a,c,full,o,arch⟩) (s':=s) I H8 F hstep I.O I.M I.ok U U U U
/-- Behind accounts.Open. -/
def OpnR (w0:World) (S0:List Nat) (w:World) (s:Ld) (arch:List Value) (b3:Nat) (e3:List Value) (bl ba bd br b c:Nat) (a:Option Addr) (full:List Value) (o:Obj) (i' code:Int):Prop :=
 (16≤s.acs.length∧code=6∧Ctx w0 S0 w ((b3,Bl 40 e3)::(bl,Bl 106 [ptr ba,ptr bd,ptr br,.int .i64 s.day])::(br,Bl 168 arch)::LX ba a s.acs.length c full bd b s.nx o)) ∨
 (s.acs.length<16∧i'=(s.acs.length:Int)∧code=0∧∃ a' c' full',OS a' (s.acs++[a00]).length c' 2 full' ((s.acs++[a00]).flatMap CP)∧Ctx w0 S0 w ((b3,Bl 40 e3)::(bl,Bl 106 [ptr ba,ptr bd,ptr br,.int .i64 s.day])::(br,Bl 168 arch)::LX ba a' (s.acs++[a00]).length c' full' bd b s.nx o))
theorem Zy {w0 w w':World} {S0:List Nat} {s:Ld} {arch:List Value} {b3 bl ba bd br b c:Nat} {e3:List Value} {a:Option Addr} {full:List Value} {o:Obj} {v:Value} (H:Ctx w0 S0 w ((b3,Bl 40 e3)::(bl,Bl 106 [ptr ba,ptr bd,ptr br,.int .i64 s.day])::(br,Bl 168 arch)::LX ba a s.acs.length c full bd b s.nx o))
  (h:(16≤s.acs.length→v = .tuple #[.int .i64 0,.int .i64 6]∧Ctx w ((AL ba (bd,Bl 165 (DU b s.nx)) (b,o) a s.acs.length c full).map fun x=>x.1) w' (AL ba (bd,Bl 165 (DU b s.nx)) (b,o) a s.acs.length c full)) ∧
   (s.acs.length<16→v = .tuple #[.int .i64 (s.acs.length:Int),.int .i64 0]∧∃ a' c' full',OS a' (s.acs++[a00]).length c' 2 full' ((s.acs++[a00]).flatMap CP)∧Ctx w ((AL ba (bd,Bl 165 (DU b s.nx)) (b,o) a s.acs.length c full).map fun x=>x.1) w' (AL ba (bd,Bl 165 (DU b s.nx)) (b,o) a' (s.acs++[a00]).length c' full'))) :
  ∃ i' code,v = .tuple #[.int .i64 i',.int .i64 code]∧OpnR w0 S0 w' s arch b3 e3 bl ba bd br b c a full o i' code:=by
 have hb:∀ {L':List (Nat × Obj)},Ctx w ((AL ba (bd,Bl 165 (DU b s.nx)) (b,o) a s.acs.length c full).map fun x=>x.1) w' L'→Ctx w0 S0 w' ([(b3,Bl 40 e3),(bl,Bl 106 [ptr ba,ptr bd,ptr br,.int .i64 s.day]),(br,Bl 168 arch)]++L'):=fun {L'} h1=>(Ctx.back (L1:=AL ba (bd,Bl 165 (DU b s.nx)) (b,o) a s.acs.length c full) (L2:=[_,_,_]) (H.comm (L:=[_,_,_])) h1).comm
 rcases Nat.lt_or_ge s.acs.length 16 with h16 | h16
 ·obtain ⟨rfl,a',c',full',O',H1⟩:=h.2 h16;exact ⟨_,_,rfl,.inr ⟨h16,rfl,rfl,a',c',full',O',hb H1⟩⟩
 ·obtain ⟨rfl,H1⟩:=h.1 h16;exact ⟨_,_,rfl,.inl ⟨h16,rfl,hb H1⟩⟩
set_option maxRecDepth 20000 in
set_option maxHeartbeats 1000000 in
theorem Zz {m:Lm} {s:Ld} {T:Nat→Prop} {k:Ak} (hk:k.kd=1) (hin:AkIn k) (w:World) (I:LdIn w m s T) (H0:Ctx w (Di m s) w (LL m s)) :
  Ret Tryz.prog 54 #[ptr m.bl,.agg (Cd k).toArray] w (FP w m s T k):=by
 obtain ⟨w0,rfl⟩:∃ w0,w0=w:=⟨_,rfl⟩;obtain ⟨bl,ba,bd,br,b,a,c,full,o,arch⟩:=m;obtain ⟨S0,hS0⟩:∃ S,S=Di ⟨bl,ba,bd,br,b,a,c,full,o,arch⟩ s:=⟨_,rfl⟩;have H:Ctx w0 S0 w0 ((bl,Bl 106 [ptr ba,ptr bd,ptr br,.int .i64 s.day])::(br,Bl 168 arch)::(ba,Bl 162 [.slice a s.acs.length c])::(bd,Bl 165 (DU b s.nx))::(b,o)::ent a 43 full):=by rw [hS0]; exact H0
 have hn16:=(Ch.1 I.ok.ac).1;have hbdb:bd≠b:=H.ne (i:=3) (j:=4) rfl rfl (by decide)
 have hstep:∀ l,(s.acs.length<16→l=[(s.acs.length:Int)])→CR s k (EI s k) (rp l (if s.acs.length<16 then 0 else 6)):=fun l hl=>by
  unfold CR;rw [if_neg (by omega)];refine ⟨rfl,?_⟩;unfold Fe;rw [if_pos hk]
  by_cases h:s.acs.length<16
  ·rw [if_pos h,hl h]
  ·rw [if_neg h,Sp (by decide),Sp (by decide)]
 have hokS:=IQ I.ok k hin.u.2;have hoth:EI s k=if s.acs.length<16 then { s with acs:=s.acs++[a00] } else s:=by unfold EI; rw [if_pos hk]
 refine Au (fn:=Tryz.f54) Tryz.func54 U [.pointer (some ⟨bl,0,none⟩),.agg (Cd k).toArray] U (by kernel_rfl) ?_;refine Ad (Bu U (Cd k) (.agg _) U U H ?_);rintro b3 w - H;refine A1 U U (Ae U U (Ab (Aa (Ad (A3 U U (A8 U U (Ah U FD U (AE U Ic U H at1 U ?_))))))));have HL:=Ctx.lend (L1:=AL ba (bd,Bl 165 (DU b s.nx)) (b,o) a s.acs.length c full) (L2:=[(b3,Bl 40 (Cd k)),(bl,Bl 106 [ptr ba,ptr bd,ptr br,.int .i64 s.day]),(br,Bl 168 arch)]) (H.comm (L:=[_,_,_]));refine Al U Ade (W3 HL I.O (by omega)) U ?_;rintro v w hres;obtain ⟨i',code,rfl,hr⟩:∃ i' code,v = .tuple #[.int .i64 i',.int .i64 code]∧OpnR w0 S0 w s arch b3 (Cd k) bl ba bd br b c a full o i' code:=Zy H hres;refine C0 U U (AO U U U (AO U U U (Ae U U (Ae U U (Ab (Aa (Ad (Af U U ?_))))))));have H:=Ctx.start w [];refine Ci [.int .i64 i'] (.int .i64 i') U AR Bx Eb U (by decide) (by decide) U U U H ?_;rintro b17 w2 - H17
 refine Af U U (A1 U U (Ae U U (Ab (Aa (A5 (BR (v1:=(.slice _ _ _)) (v2:=(.int _ _)) U U U U ?_))))));subst hS0
 rcases hr with ⟨h16,rfl,H1⟩ | ⟨h16,rfl,rfl,a',c',full',O',H1⟩
 ·rw [hoth,if_neg (by omega)] at hokS hstep;rw [if_neg (by omega)] at hstep;exact D9 (P:=[_]) (m':=⟨bl,ba,bd,br,b,a,c,full,o,arch⟩) (s':=s) (l:=[i']) I H1 (Gc (n:=1) (l:=[Dq i']) H17 U) (hstep [i'] fun h=>by omega) I.O I.M I.ok U U U U
 ·rw [hoth,if_pos h16] at hokS hstep;rw [if_pos h16] at hstep;exact D9 (P:=[_]) (m':=⟨bl,ba,bd,br,b,a',c',full',o,arch⟩) (s':={ s with acs:=s.acs++[a00] }) (l:=[(s.acs.length:Int)]) I H1 (Gc (n:=1) (l:=[Dq (s.acs.length:Int)]) H17 U) (hstep [_] fun _=>rfl) O' I.M hokS U U U U
end Go.Proofs.YtdagmpmdcgedcaaGreat

/- The ledger: owe, turn (printed by gen/genLeS.py). -/
namespace Go.Proofs.YtdagmpmdcgedcaaGreat
open Go.GV
attribute [local irreducible] AB W Wq Wt

set_option maxRecDepth 20000 in
set_option maxHeartbeats 1000000 in
theorem Abs {m:Lm} {s:Ld} {T:Nat→Prop} {k:Ak} (hk:k.kd=5) (hin:AkIn k) (w:World) (I:LdIn w m s T) (H0:Ctx w (Di m s) w (LL m s)) :
  Ret Tryz.prog 58 #[ptr m.bl,.agg (Cd k).toArray] w (FP w m s T k):=by
 obtain ⟨w0,rfl⟩:∃ w0,w0=w:=⟨_,rfl⟩;obtain ⟨bl,ba,bd,br,b,a,c,full,o,arch⟩:=m;obtain ⟨S0,hS0⟩:∃ S,S=Di ⟨bl,ba,bd,br,b,a,c,full,o,arch⟩ s:=⟨_,rfl⟩;have H:Ctx w0 S0 w0 ((bl,Bl 106 [ptr ba,ptr bd,ptr br,.int .i64 s.day])::(br,Bl 168 arch)::(ba,Bl 162 [.slice a s.acs.length c])::(bd,Bl 165 (DU b s.nx))::(b,o)::ent a 43 full):=by rw [hS0]; exact H0
 have hn16:=(Ch.1 I.ok.ac).1;have hbdb:bd≠b:=H.ne (i:=3) (j:=4) rfl rfl (by decide);have hS:EI s k=if (inA s.acs k.a && inA s.acs k.b)=true∧s.day≤k.u then { s with ds:=LS s.ds s.nx k.a k.b k.x k.w k.u,nx:=NU s.ds s.nx k.a k.b k.x k.w k.u } else s:=by unfold EI; rw [if_neg (by omega),if_neg (by omega),if_neg (by omega),if_neg (by omega),if_pos hk]
 have hR:Fe s k=if (inA s.acs k.a && inA s.acs k.b)=false then ⟨10,[]⟩ else if k.u<s.day then ⟨1,[]⟩ else rp [IntKind.i64.wrap s.nx] (IP s.ds s.nx k.a k.b k.x k.w k.u):=by unfold Fe; rw [if_neg (by omega),if_neg (by omega),if_neg (by omega),if_neg (by omega),if_pos hk]
 have hstep:∀ s' p,EI s k=s'→Fe s k=p→CR s k s' p:=fun s' p h1 h2=>by
  unfold CR;rw [if_neg (by omega)];exact ⟨h1.symm,h2.symm⟩
 have hokS:=IQ I.ok k hin.u.2;obtain ⟨-,hnx,-,-⟩:=FO I.ok.du;have hw:IntKind.i64.wrap s.nx=s.nx:=CZ (show (-9223372036854775808:Int)≤s.nx by omega) (show s.nx≤(9223372036854775807:Int) by omega);refine Au (fn:=Tryz.f58) Tryz.func58 U [.pointer (some ⟨bl,0,none⟩),.agg (Cd k).toArray] U (by kernel_rfl) ?_;refine Ad (Bu U (Cd k) (.agg _) U U H ?_);rintro b3 w - H;refine A1 U U (Ae U U (Ab (Aa (Aw (Az (Ad (Cw (α:=Unit) 2096896 (fun _=>[(8,.bool (!(inA s.acs k.a && inA s.acs k.b)))]) (fun _ w'=>Ctx w0 S0 w' ([(b3,Bl 40 (Cd k)),(bl,Bl 106 [ptr ba,ptr bd,ptr br,.int .i64 s.day]),(br,Bl 168 arch),(ba,Bl 162 [.slice a s.acs.length c]),(bd,Bl 165 (DU b s.nx)),(b,o)]++ent a 43 full)) U ?_ ?_)))))))
 ·refine A3 U U (Ah U FG U (AE U BS U H at0 U (Al U Ach (Sz k.a _ (H.get at1) (H.get at3) (OS.rd (t:=43) I.O (fun y hy=>H.blk y (List.mem_append_right [_,_,_,_,_,_] hy)) (fun _ _=>rfl) (by decide)) (by omega)) U ?_)));rintro v w ⟨rfl,hxb⟩;replace H:=H.call hxb;refine BG U U (A7 U U (AV 14 U ?_ ?_))
  ·intro h1;replace h1:=BD h1;refine Ag U (Ag U (Ag U (Ag U (Ag U (AG U U (.bool _) U (Ai U U (Ab ?_)))))));exact ⟨rfl,(),rfl,⟨congrArg Value.bool (by cases h1:inA s.acs k.a <;> cases h2:inA s.acs k.b <;> simp_all),trivial⟩,H⟩
  ·intro h2;replace h2:=BE h2;refine A3 U U (Ah U PU U (AE U BS U H at0 U (Al U Ach (Sz k.b _ (H.get at1) (H.get at3) (OS.rd (t:=43) I.O (fun y hy=>H.blk y (List.mem_append_right [_,_,_,_,_,_] hy)) (fun _ _=>rfl) (by decide)) (by omega)) U ?_)));rintro v w ⟨rfl,hxb⟩;replace H:=H.call hxb;refine BG U U (AJ U U (.bool _) U (Ai U U (Ab ?_)));exact ⟨rfl,(),rfl,⟨congrArg Value.bool (by cases h1:inA s.acs k.a <;> cases h2:inA s.acs k.b <;> simp_all),trivial⟩,H⟩
 rintro - j8 w H;refine Aq _ U ?_ ?_
 ·intro h1;replace h1:=BD h1;replace h1:(inA s.acs k.a && inA s.acs k.b)=false:=by revert h1; cases (inA s.acs k.a && inA s.acs k.b) <;> simp
  refine Ad (A1 U U (Ae U U (Ab (Aa (A5 (A9 (Ao (BR (v1:=(.slice _ _ _)) (v2:=(.int _ _)) U U U U ?_))))))));subst hS0;exact D9 (P:=[_]) (m':=⟨bl,ba,bd,br,b,a,c,full,o,arch⟩) (s':=s) (l:=[]) (code:=10) I H (Hr _) (hstep _ _ (by rw [hS,if_neg (by rw [h1]; simp)]) (by rw [hR,if_pos h1]; rfl)) I.O I.M I.ok U U U U
 ·intro h1;replace h1:=BE h1;replace h1:(inA s.acs k.a && inA s.acs k.b)=true:=by revert h1; cases (inA s.acs k.a && inA s.acs k.b) <;> simp
  refine Dx (fun x=>x=_) Bq (by kernel_rfl) U ?_;refine A2 U KS U (BU U Bw U (by rintro _ rfl; exact H.drew) at0 U ?_);refine B4 U U (AX U U (A2 U KN U (BU U Bw U (by rintro _ rfl; exact H.drew) at1 U ?_)));refine JV U U U (LA U U (BK ?_));rintro _ rfl;replace H:=H.drew;refine Aq _ U ?_ ?_
  ·intro h2;replace h2:=AM h2;refine Ad (A1 U U (Ae U U (Ab (Aa (A5 (A9 (Ao (BR (v1:=(.slice _ _ _)) (v2:=(.int _ _)) U U U U ?_))))))));subst hS0;exact D9 (P:=[_]) (m':=⟨bl,ba,bd,br,b,a,c,full,o,arch⟩) (s':=s) (l:=[]) (code:=1) I H (Hr _) (hstep _ _ (by rw [hS,if_neg (fun h=>by omega)]) (by rw [hR,if_neg (by rw [h1]; decide),if_pos h2]; rfl)) I.O I.M I.ok U U U U
  ·intro h2;replace h2:=AN h2;rw [hS,if_pos ⟨h1,by omega⟩] at hokS;obtain ⟨y,hy,hy0⟩:∃ y,(if IP s.ds s.nx k.a k.b k.x k.w k.u=0 then s.nx else 0)=y∧0≤y∧y≤4611686018427387904:=⟨_,rfl,by split <;> omega,by split <;> omega⟩
   have hst:CR s k { s with ds:=LS s.ds s.nx k.a k.b k.x k.w k.u,nx:=NU s.ds s.nx k.a k.b k.x k.w k.u } (rp [y] (IP s.ds s.nx k.a k.b k.x k.w k.u)):=hstep _ _ (by rw [hS,if_pos ⟨h1,by omega⟩]) (by
    rw [hR,if_neg (by rw [h1]; decide),if_neg h2,hw]
    by_cases h0:IP s.ds s.nx k.a k.b k.x k.w k.u=0
    ·rw [if_pos h0] at hy; rw [hy]
    ·rw [Sp h0,Sp h0])
   refine Av (A6 (Aa (Cv [([0,1,2,3,4,5,6,7,8,9,10,11,12,13],14),([15,16,17,18],19)] (fun z=>z.heap[b3]? = some (Bl 40 (Cd k))∧z.heap[bl]? = some (Bl 106 [ptr ba,ptr bd,ptr br,.int .i64 s.day])) [14,19] Bq (by kernel_rfl) (⟨H.drew.get at0,H.drew.get at1⟩) ?_)));refine AH U U ?_;refine BQ U U (Bg U U (An U Ff U (B0 U FA U (fun _ hx=>(by rw [Aj hx.2]; rfl)) ?_)));refine An U FG U (B0 U BS U (fun _ hx=>(by rw [Aj hx.1]; rfl)) ?_);refine An U PU U (B0 U BS U (fun _ hx=>(by rw [Aj hx.1]; rfl)) ?_);refine An U ME U (B0 U Bw U (fun _ hx=>(by rw [Aj hx.1]; rfl)) ?_);refine An U ZX U (B0 U Bw U (fun _ hx=>(by rw [Aj hx.1]; rfl)) ?_);refine An U KS U (B0 U Bw U (fun _ hx=>(by rw [Aj hx.1]; rfl)) ?_);refine AS ?_;replace H:=H.drew;refine Al U Adi (Zs k.a k.b k.x k.w k.u _ (H.get at4) (H.get at5) I.M hbdb I.ok.du) U ?_;rintro v w ⟨rfl,o',hM',H7⟩;rw [hy]
   replace H:=Ctx.mid (B:=[_,_,_,_]) (L:=[_,_]) H H7;refine Ab (B3 U (AH U U ?_));refine D5 U U (Bs U U U (Bs U U U (JD U U (AS (Ae U U (Ab (B3 U (BJ (Ad (Af U U ?_))))))))));refine Gn U U EZ VD (by omega) (by omega) ?_;have H17:=Ctx.start w [];refine Ci [.int .i64 y] (.int .i64 y) U AR Bx Eb U (by decide) (by decide) U U U H17 ?_;rintro b49 w2 - H17;refine Af U U (A1 U U (Ae U U (Ab (Aa (A5 (BR (v1:=(.slice _ _ _)) (v2:=(.int _ _)) U U U U ?_))))));subst hS0;exact D9 (P:=[_]) (m':=⟨bl,ba,bd,br,b,a,c,full,o',arch⟩) (s':={ s with ds:=LS s.ds s.nx k.a k.b k.x k.w k.u,nx:=NU s.ds s.nx k.a k.b k.x k.w k.u }) (l:=[y]) I H (Gc (n:=1) (l:=[Dq y]) H17 U) hst I.O hM' hokS U U U U
set_option maxRecDepth 20000 in
set_option maxHeartbeats 1000000 in
theorem Z0 {m:Lm} {s:Ld} {T:Nat→Prop} {k:Ak} (hk:k.kd=9) (hin:AkIn k) (w:World) (I:LdIn w m s T) (H0:Ctx w (Di m s) w (LL m s)) :
  Ret Tryz.prog 62 #[ptr m.bl,.agg (Cd k).toArray] w (FP w m s T k):=by
 obtain ⟨w0,rfl⟩:∃ w0,w0=w:=⟨_,rfl⟩;obtain ⟨bl,ba,bd,br,b,a,c,full,o,arch⟩:=m;obtain ⟨S0,hS0⟩:∃ S,S=Di ⟨bl,ba,bd,br,b,a,c,full,o,arch⟩ s:=⟨_,rfl⟩;have H:Ctx w0 S0 w0 ((bl,Bl 106 [ptr ba,ptr bd,ptr br,.int .i64 s.day])::(br,Bl 168 arch)::(ba,Bl 162 [.slice a s.acs.length c])::(bd,Bl 165 (DU b s.nx))::(b,o)::ent a 43 full):=by rw [hS0]; exact H0
 have hn16:=(Ch.1 I.ok.ac).1;have hbdb:bd≠b:=H.ne (i:=3) (j:=4) rfl rfl (by decide);have hS:EI s k=if s.day≤k.u then { s with day:=k.u,ds:=LU s.ds k.u } else s:=by unfold EI; rw [if_neg (by omega),if_neg (by omega),if_neg (by omega),if_neg (by omega),if_neg (by omega),if_neg (by omega),if_neg (by omega),if_neg (by omega),if_pos hk]
 have hR:Fe s k=if k.u<s.day then ⟨3,[]⟩ else ⟨0,[((s.ds.length - (LU s.ds k.u).length:Nat):Int)]⟩:=by unfold Fe; rw [if_neg (by omega),if_neg (by omega),if_neg (by omega),if_neg (by omega),if_neg (by omega),if_neg (by omega),if_neg (by omega),if_neg (by omega),if_pos hk]
 have hstep:∀ s' p,EI s k=s'→Fe s k=p→CR s k s' p:=fun s' p h1 h2=>by
  unfold CR;rw [if_neg (by omega)];exact ⟨h1.symm,h2.symm⟩
 have hokS:=IQ I.ok k hin.u.2;refine Au (fn:=Tryz.f62) Tryz.func62 U [.pointer (some ⟨bl,0,none⟩),.agg (Cd k).toArray] U (by kernel_rfl) ?_;refine Ad (Bu U (Cd k) (.agg _) U U H ?_);rintro b3 w - H;refine A1 U U (Ae U U (Ab (Aa (Aw (Dx (fun x=>x=_) Bq (by kernel_rfl) U ?_)))));refine A2 U KS U (BU U Bw U (by rintro _ rfl; exact H.drew) at0 U ?_);refine B4 U U (AX U U (A2 U KN U (BU U Bw U (by rintro _ rfl; exact H.drew) at1 U ?_)));refine JV U U U (BK ?_);rintro _ rfl;replace H:=H.drew;refine Aq _ U ?_ ?_
 ·intro h1;replace h1:=AM h1;refine Ad (A1 U U (Ae U U (Ab (Aa (A5 (Ao (BR (v1:=(.slice _ _ _)) (v2:=(.int _ _)) U U U U ?_)))))));subst hS0;exact D9 (P:=[_]) (m':=⟨bl,ba,bd,br,b,a,c,full,o,arch⟩) (s':=s) (l:=[]) (code:=3) I H (Hr _) (hstep _ _ (by rw [hS,if_neg (by omega)]) (by rw [hR,if_pos h1]; rfl)) I.O I.M I.ok U U U U
 ·intro h1;replace h1:=AN h1;rw [hS,if_pos (by omega)] at hokS;refine Av (Aa (Ad (A3 U U (Ah U KS U (AE U Bw U H at0 U (A8 U U (Ah U KN U (Cg (.int _ _) U Bx U U U H at1 (by (simp; done)) ?_))))))));rintro w H;refine Ab (Aa (DM 6 Bq (by kernel_rfl) U U ?_));refine B4 U U (AX U U (A2 U Ff U (BU U FA U (by rintro _ rfl; exact H.drew) at1 U ?_)));refine A2 U KS U (BU U Bw U (by rintro _ rfl; exact H.drew) at0 U ?_);refine BK ?_;replace H:=H.drew;refine Al U Adm (W7 (u:=k.u) _ (H.get at4) (H.get at5) I.M hbdb I.ok.du) U ?_;rintro v w ⟨o',hM',H7,a7,c7,rfl⟩;replace H:=Ctx.mid (B:=[_,_,_,_,_]) (L:=[_]) H H7;refine Bf U Br U ?_;have H17:=Ctx.start w [];refine Ci [.int .i64 ((s.ds.length - (LU s.ds k.u).length:Nat):Int)] (.int .i64 _) U AR Bx Eb U (by decide) (by decide) U U U H17 ?_;rintro b26 w2 - H17;refine A1 U U (Ae U U (Ab (Aa (A5 (BR (v1:=(.slice _ _ _)) (v2:=(.int _ _)) U U U U ?_)))))
  subst hS0;exact D9 (P:=[_]) (m':=⟨bl,ba,bd,br,b,a,c,full,o',arch⟩) (s':={ s with day:=k.u,ds:=LU s.ds k.u }) (l:=[((s.ds.length - (LU s.ds k.u).length:Nat):Int)]) (code:=0) I H (Gc (n:=1) (l:=[Dq ((s.ds.length - (LU s.ds k.u).length:Nat):Int)]) H17 U) (hstep _ _ (by rw [hS,if_pos (by omega)]) (by rw [hR,if_neg h1]; rfl)) I.O hM' hokS U U U U
end Go.Proofs.YtdagmpmdcgedcaaGreat

/- The ledger: flag, due (printed by gen/genLeT.py). -/
namespace Go.Proofs.YtdagmpmdcgedcaaGreat
open Go.GV
attribute [local irreducible] AB W Wq Wt

theorem Vm (b:Bool) (w:World):Ret Tryz.prog 119 #[.bool b] w fun v w'=>v = .int .i64 (Mu b)∧w=w':=by
 obtain ⟨w0,rfl⟩:∃ w0,w0=w:=⟨_,rfl⟩;refine Au (fn:=Tryz.f119) Tryz.func119 U [.bool b] U (by kernel_rfl) ?_;refine Ad (Ae U U (Ab (Aa (Aw (Ad (A7 U U (Ab (Aa (Aq _ U ?_ ?_)))))))))
 ·intro h1;refine Ad (Ae U U (Ab (Aa (A5 (Ao (AA (v:=(.int _ _)) U U U ?_))))));exact ⟨by rw [show b=true by simpa using h1]; rfl,rfl⟩
 ·intro h1;refine Av (Aa (Ad (Ae U U (Ab (Aa (A5 (AA (v:=(.int _ _)) U U U ?_)))))));exact ⟨by rw [show b=false by simpa using h1]; rfl,rfl⟩
set_option maxRecDepth 20000 in
set_option maxHeartbeats 1000000 in
theorem Abt {m:Lm} {s:Ld} {T:Nat→Prop} {k:Ak} (hk:k.kd=14) (hin:AkIn k) (w:World) (I:LdIn w m s T) (H0:Ctx w (Di m s) w (LL m s)) :
  Ret Tryz.prog 66 #[ptr m.bl,.agg (Cd k).toArray] w (FP w m s T k):=by
 obtain ⟨w0,rfl⟩:∃ w0,w0=w:=⟨_,rfl⟩;obtain ⟨bl,ba,bd,br,b,a,c,full,o,arch⟩:=m;obtain ⟨S0,hS0⟩:∃ S,S=Di ⟨bl,ba,bd,br,b,a,c,full,o,arch⟩ s:=⟨_,rfl⟩;have H:Ctx w0 S0 w0 ((bl,Bl 106 [ptr ba,ptr bd,ptr br,.int .i64 s.day])::(br,Bl 168 arch)::(ba,Bl 162 [.slice a s.acs.length c])::(bd,Bl 165 (DU b s.nx))::(b,o)::ent a 43 full):=by rw [hS0]; exact H0
 have hn16:=(Ch.1 I.ok.ac).1;have hbdb:bd≠b:=H.ne (i:=3) (j:=4) rfl rfl (by decide);have hR0:CD s.ds k.id=none→Fe s k=⟨11,[]⟩:=fun h=>by unfold Fe; rw [if_neg (by omega),if_neg (by omega),if_neg (by omega),if_neg (by omega),if_neg (by omega),if_neg (by omega),if_neg (by omega),if_neg (by omega),if_neg (by omega),if_neg (by omega),if_neg (by omega),if_pos hk,h]
 have hR1:∀ d,CD s.ds k.id=some d→Fe s k=⟨0,[d.fr,d.to,d.am,d.we,d.un,Mu d.held]⟩:=fun d h=>by unfold Fe; rw [if_neg (by omega),if_neg (by omega),if_neg (by omega),if_neg (by omega),if_neg (by omega),if_neg (by omega),if_neg (by omega),if_neg (by omega),if_neg (by omega),if_neg (by omega),if_neg (by omega),if_pos hk,h]
 have hS:EI s k=s:=by unfold EI; rw [if_neg (by omega),if_neg (by omega),if_neg (by omega),if_neg (by omega),if_neg (by omega),if_neg (by omega),if_neg (by omega),if_neg (by omega),if_neg (by omega)]
 have hstep:∀ p,Fe s k=p→CR s k s p:=fun p h2=>by
  unfold CR;rw [if_neg (by omega)];exact ⟨hS.symm,h2.symm⟩
 have hD:Lo s.ds k.id=(CD s.ds k.id).getD d00:=rfl;refine Au (fn:=Tryz.f66) Tryz.func66 U [.pointer (some ⟨bl,0,none⟩),.agg (Cd k).toArray] U (by kernel_rfl) ?_;refine Ad (Bu U (Cd k) (.agg _) U U H ?_);rintro b3 w - H;refine A1 U U (Ae U U (Ab (Aa (DE 262080 (α:=Nat) (fun z=>[(6,ptr z),(7,.bool (CD s.ds k.id).isSome)]) (fun z w'=>Ctx w0 S0 w' ((z,Bl 67 (CO (Lo s.ds k.id)))::(b3,Bl 40 (Cd k))::(bl,Bl 106 [ptr ba,ptr bd,ptr br,.int .i64 s.day])::(br,Bl 168 arch)::(ba,Bl 162 [.slice a s.acs.length c])::(bd,Bl 165 (DU b s.nx))::(b,o)::ent a 43 full)) U ?_ ?_))))
 ·skip
  refine MZ (.two [0,1,2,3,4,5] 6 (.one [7,8,9] 10 (.one [] 11 (.one [] 12 .stop))) 10 (.one [] 6 (.one [7,8,9] 11 (.one [] 12 .stop)))) (fun z=>z.heap[b3]? = some (Bl 40 (Cd k))∧z.heap[bl]? = some (Bl 106 [ptr ba,ptr bd,ptr br,.int .i64 s.day])) Bq (by kernel_rfl) (⟨H.drew.get at0,H.drew.get at1⟩) ?_;refine HM U U U ?_;refine BQ U U (Bg U U (An U Ff U (B0 U FA U (fun _ hx=>(by rw [Aj hx.2]; rfl)) ?_)));refine An U JE U (B0 U B2 U (fun _ hx=>(by rw [Aj hx.1]; rfl)) ?_);refine AS ?_;replace H:=H.drew;refine ⟨?_,?_⟩
  ·skip
   refine Al U Tj (Qt _ (H.get at4) (H.get at5) I.M) U ?_;rintro v w ⟨rfl,hx15⟩;replace H:=H.call hx15;refine Ab (BH (by exact ⟨H.get at0,H.get at1⟩) ?_);refine BF U U ?_;refine D5 U U (Bs U U U (Bs U U U (AS (AZ U Et H ?_))));rintro b6 w - H;refine Ab (BH (by exact ⟨H.get at1,H.get at2⟩) ?_);refine BF U U ?_;refine AS (Bn U Cj U U U (by exact CY _) H at0 U ?_);rintro w H;refine Ab (BH (by exact ⟨H.get at1,H.get at2⟩) ?_);refine BF U U ?_;refine AS (Ai U U (Ab (BH (by exact ⟨H.get at1,H.get at2⟩) ?_)));refine DO ?_;refine Aa ?_;exact ⟨b6,rfl,⟨rfl,rfl,trivial⟩,H⟩
  ·skip
   refine AZ U Et H ?_;rintro b6 w - H;refine Ab (BH (by exact ⟨H.get at1,H.get at2⟩) ?_);refine BF U U ?_;refine AS (Al U Tj (Qt _ (H.get at5) (H.get at6) I.M) U ?_);rintro v w ⟨rfl,hx15⟩;replace H:=H.call hx15;refine Ab (BH (by exact ⟨H.get at1,H.get at2⟩) ?_);refine BF U U ?_;refine D5 U U (Bs U U U (Bs U U U (AS (Bn U Cj U U U (by exact CY _) H at0 U ?_))));rintro w H;refine Ab (BH (by exact ⟨H.get at1,H.get at2⟩) ?_);refine BF U U ?_;refine AS (Ai U U (Ab (BH (by exact ⟨H.get at1,H.get at2⟩) ?_)));refine DO ?_;refine Aa ?_;exact ⟨b6,rfl,⟨rfl,rfl,trivial⟩,H⟩
 ·rintro b6 j7 w H;refine Aw (Ad (A7 U U (BG U U (Ab (Aa (Aq _ U ?_ ?_))))))
  ·intro h1;replace h1:=BD h1
   have hf:CD s.ds k.id=none:=by cases hh:CD s.ds k.id with | none=>rfl | some d=>rw [hh] at h1; cases h1
   refine Ad (A1 U U (Ae U U (Ab (Aa (A5 (Ao (BR (v1:=(.slice _ _ _)) (v2:=(.int _ _)) U U U U ?_)))))));subst hS0;exact D9 (P:=[_,_]) (m':=⟨bl,ba,bd,br,b,a,c,full,o,arch⟩) (s':=s) (l:=[]) (code:=11) I H (Hr _) (hstep _ (by rw [hR0 hf]; rfl)) I.O I.M I.ok U U U U
  ·intro h1;replace h1:=BE h1
   obtain ⟨d,hf⟩:∃ d,CD s.ds k.id=some d:=by cases hh:CD s.ds k.id with | some d=>exact ⟨d,rfl⟩ | none=>rw [hh] at h1; cases h1
   rw [hD,hf] at H
   change Ctx w0 S0 w ((b6,Bl 67 (CO d))::(b3,Bl 40 (Cd k))::(bl,Bl 106 [ptr ba,ptr bd,ptr br,.int .i64 s.day])::(br,Bl 168 arch)::(ba,Bl 162 [.slice a s.acs.length c])::(bd,Bl 165 (DU b s.nx))::(b,o)::ent a 43 full) at H
   refine Av (Aa (Cv [([0,1,2,3,4,5,6,7,8,9,10,11],12),([],13),([14],15)] (fun z=>z.heap[b6]? = some (Bl 67 (CO d))) [] Bq (by kernel_rfl) (H.drew.get at0) ?_));refine AH U U ?_;refine An U I6 U (B0 U BS U (fun _ hx=>(by rw [Aj hx]; rfl)) ?_);refine An U I8 U (B0 U BS U (fun _ hx=>(by rw [Aj hx]; rfl)) ?_);refine An U ET U (B0 U Bw U (fun _ hx=>(by rw [Aj hx]; rfl)) ?_);refine An U KU U (B0 U Bw U (fun _ hx=>(by rw [Aj hx]; rfl)) ?_);refine An U PV U (B0 U Bw U (fun _ hx=>(by rw [Aj hx]; rfl)) ?_);refine An U KV U (B0 U JR U (fun _ hx=>(by rw [Aj hx]; rfl)) ?_);refine AS ?_;replace H:=H.drew;refine Al U Xq (Vm d.held _) U ?_;rintro v w ⟨rfl,rfl⟩;refine Ab (Cl (H.get at0) (AH U U ?_));refine AS (D4 ([d.fr,d.to,d.am,d.we,d.un,Mu d.held].map Dq) U AR Bx Eb (by decide) (by decide) (by kernel_rfl) (Ctx.start _ []) ?_);rintro b33 w2 - H17;refine Ab (Cl (H17.ext.to (H.get at0) (by simp)) ?_)
   refine AH U U ?_;refine DX U U (AS (Ae U U (Ab (Cl (H17.ext.to (H.get at0) (by simp)) ?_))));refine BJ (A5 (BR (v1:=(.slice _ _ _)) (v2:=(.int _ _)) U U U U ?_));subst hS0;exact D9 (P:=[_,_]) (m':=⟨bl,ba,bd,br,b,a,c,full,o,arch⟩) (s':=s) (l:=[d.fr,d.to,d.am,d.we,d.un,Mu d.held]) (code:=0) I H (Gc (n:=6) H17 U) (hstep _ (by rw [hR1 d hf]; rfl)) I.O I.M I.ok U U U U
end Go.Proofs.YtdagmpmdcgedcaaGreat

/- The archive: may, own. -/
namespace Go.Proofs.YtdagmpmdcgedcaaGreat
open Go.GV
attribute [local irreducible] AB W Wq Wt

theorem S2 {α:Type} {enc:α→List Value} {s:Nat} {t:TypeId} {xs:List α} {w w':World} {v:Value} (F:Fresh w w' t s v (xs.flatMap enc)) (hs:∀ x∈xs,(enc x).length=s) (h0:0<s):∃ a c,v = .slice a xs.length c∧Rd w' a s enc xs∧(xs≠[]→w.heap.size≤(adr a).block)∧xs.length≤c∧Ext [] w w':=by
 obtain ⟨a,n,c,f,rfl,O,hb⟩:=F.ex;obtain rfl:=O.numN hs h0;refine ⟨a,c,rfl,OS.rd O (fun x hx=>(hb x hx).1) hs h0,fun hne=>?_,O.le,F.ext⟩;obtain ⟨q,rfl⟩:=O.form (List.length_pos_iff.2 hne);exact (hb (q,Bl t f) (List.mem_singleton.2 U)).2
theorem Z1 (l:List Int):∀ v∈l.map FS,Be v=true:=fun v hv=>by
 obtain ⟨x,_,rfl⟩:=List.mem_map.1 hv; rfl
theorem W9 (a:Option Addr) (n c:Nat) (xs:List Int) (w:World) (R:Rd w a 1 U1 xs) (hn:xs.length=n) (hm:n≤1000000000) :
  Ret Tryz.prog 164 #[.slice a n c] w fun v w'=>Fresh w w' 28 1 v (xs.map FS):=by
 subst hn;obtain ⟨w0,rfl⟩:∃ w0,w0=w:=⟨_,rfl⟩;have H:=Ctx.start w0 [];refine Au (fn:=Tryz.f164) Tryz.func164 U [.slice a xs.length c] U (by kernel_rfl) ?_;refine Ad (A1 U U (Ab (Aa (Aw (Ad (A4 U U (HX U Br U (Ab (Aa (Aq _ U ?_ ?_))))))))))
 ·intro h1;have ha:a=none:=by simpa using h1
  subst ha
  have hxs:xs=[]:=by
   cases xs with
   | nil=>rfl
   | cons x xs=>obtain ⟨b,o,h⟩:=R.some' (by simp); cases h
  subst hxs;refine Ad (A1 U U (Ab (Aa (A5 (Ao (AA (v:=(.slice _ _ _)) U U U ?_))))));exact Fresh.nil H _ _
 ·intro h1;refine Av (Aa (Ad (GM U Br Bi H ?_)));rintro b5 w H O;refine A4 U U (GL U Br Br Bi Uu N4 U (by decide) (xs.map FS) U U H O (by simp) (Z1 xs) (Rd.app1 (f:=FS) (R.ext0 H.ext)) (by omega) ?_);rintro a7 c7 full7 w H O;refine A1 U U (Ab (Aa (A5 (AA (v:=(.slice _ _ _)) U U U ?_))));exact H.fresh O
theorem WA (es:List Ed):(es.flatMap C4).length=es.length*4:=by
 induction es with
 | nil=>rfl
 | cons e es ih =>
  rw [List.flatMap_cons,List.length_append,ih];show 4+es.length*4=(es.length+1)*4;omega
theorem WB (es:List Ed):∀ v∈es.flatMap C4,Be v=true:=fun v hv=>by
 obtain ⟨e,_,he⟩:=List.mem_flatMap.1 hv;simp only [C4,List.mem_cons,List.not_mem_nil,or_false] at he
 rcases he with rfl | rfl | rfl | rfl <;> rfl
theorem WC (a:Option Addr) (n c:Nat) (es:List Ed) (w:World) (R:Rd w a 4 C4 es) (hn:es.length=n) (hm:n≤1000000000) :
  Ret Tryz.prog 165 #[.slice a n c] w fun v w'=>Fresh w w' 59 4 v (es.flatMap C4):=by
 subst hn;obtain ⟨w0,rfl⟩:∃ w0,w0=w:=⟨_,rfl⟩;have H:=Ctx.start w0 [];refine Au (fn:=Tryz.f165) Tryz.func165 U [.slice a es.length c] U (by kernel_rfl) ?_;refine Ad (A1 U U (Ab (Aa (Aw (Ad (A4 U U (HX U CW U (Ab (Aa (Aq _ U ?_ ?_))))))))))
 ·intro h1;have ha:a=none:=by simpa using h1
  subst ha
  have hxs:es=[]:=by
   cases es with
   | nil=>rfl
   | cons x xs=>obtain ⟨b,o,h⟩:=R.some' (by simp); cases h
  subst hxs;refine Ad (A1 U U (Ab (Aa (A5 (Ao (AA (v:=(.slice _ _ _)) U U U ?_))))));exact Fresh.nil H _ _
 ·intro h1;refine Av (Aa (Ad (GM U CW CX H ?_)));rintro b5 w H O;refine A4 U U (GL U CW CW CX Xl GZ U (by decide) (es.flatMap C4) U U H O (WA es) (WB es) ((R.ext0 H.ext).app (fun _ _=>rfl) (by omega)) (by omega) ?_);rintro a7 c7 full7 w H O;refine A1 U U (Ab (Aa (A5 (AA (v:=(.slice _ _ _)) U U U ?_))));exact H.fresh O
set_option maxRecDepth 20000 in
set_option maxHeartbeats 2000000 in
theorem Abu (r:Rnd) (q:RSl) (w:World) (RA:RAt w r q) (hr:RBnd r):Ret Tryz.prog 135 #[.agg (Bz r q).toArray] w fun v w'=>v = .bool (M6 r)∧Ext [] w w':=by
 obtain ⟨w0,rfl⟩:∃ w0,w0=w:=⟨_,rfl⟩;have H:=Ctx.start w0 [];obtain ⟨ck,hck⟩:∃ ck,ck=Fc r.N r.es r.fl r.pot:=⟨_,rfl⟩;have hmr:M6 r=(ck && (decide (r.ids.length≤64) && decide (0≤r.day))):=by unfold M6; rw [← hck]
 refine Au (fn:=Tryz.f135) Tryz.func135 U [.agg (Bz r q).toArray] U (by kernel_rfl) ?_;refine Ad (Bu U (Bz r q) (.agg _) U U H ?_);rintro b1 w - H;refine Ai U U (Ab (Aa (Ad (Ah U EF U (Cn _ U CV C7 U U ((CU (b:=b1) (t:=55) (l:=Bz r q) (H.get at0) 4 [.int .i64 r.N,.slice q.aE r.es.length q.cE] U)) ?_)))));refine Ah U D6 U (Cn _ U Ra Mf U U ((CU (b:=b1) (t:=55) (l:=Bz r q) (H.get at0) 6 [.slice q.aF r.fl.length q.cF,.slice q.aP r.pot.length q.cP] U)) ?_);refine Al U Xu (Ro r.N q.aE q.aF q.aP _ q.cE _ q.cF _ q.cP r.es r.fl r.pot _ (RA.E.ext0 H.ext) U hr.N (RA.F.ext0 H.ext) U (by have:=hr.fl; omega) (RA.P.ext0 H.ext) U (by have:=hr.pot; omega)) U ?_;rintro v w ⟨rfl,hx14⟩;rw [← hck];replace H:=H.call hx14;refine A7 U U (AV 8 U ?_ ?_)
 ·intro h1;refine Ah U Ey U (AE U G5 U H at0 U (Bf U Br U (L6 U U U (AG U U (.bool _) U (A7 U U (AV 14 U ?_ ?_))))))
  ·intro h2;replace h2:=AM h2;refine Ah U KT U (AE U Bw U H at0 U (C3 U U U (AG U U (.bool _) U (Ai U U (Ab (Aa (A5 (AA (v:=(.bool _)) U U U ?_))))))));exact ⟨congrArg Value.bool (by rw [hmr,Bool.eq_iff_iff]; simp_all; try omega),H.ext⟩
  ·intro h3;replace h3:=AN h3;refine Ag U (Ag U (Ag U (AJ U U (.bool _) U (Ai U U (Ab (Aa (A5 (AA (v:=(.bool _)) U U U ?_))))))));exact ⟨congrArg Value.bool (by rw [hmr,Bool.eq_iff_iff]; simp_all; try omega),H.ext⟩
 ·intro h4;refine Ag U (Ag U (Ag U (Ag U (AJ U U (.bool _) U (A7 U U (Ag U (Ag U (Ag U (AJ U U (.bool _) U ?_)))))))));refine Ai U U (Ab (Aa (A5 (AA (v:=(.bool _)) U U U ?_))));exact ⟨congrArg Value.bool (by rw [hmr,Bool.eq_iff_iff]; simp_all; try omega),H.ext⟩
set_option maxRecDepth 20000 in
set_option maxHeartbeats 2000000 in
theorem Vn (r:Rnd) (q:RSl) (w:World) (RA:RAt w r q) (hr:RBnd r):Ret Tryz.prog 101 #[.agg (Bz r q).toArray] w fun v w'=>Ext [] w w'∧∃ q',v = .agg (Bz r q').toArray∧RAt w' r q'∧ROff q' r (fun x=>x<w.heap.size):=by
 obtain ⟨w0,rfl⟩:∃ w0,w0=w:=⟨_,rfl⟩;have H:=Ctx.start w0 [];have b1':=hr.ids;have b2':=hr.es;have b3':=hr.fl;have b4':=hr.pot;refine Au (fn:=Tryz.f101) Tryz.func101 U [.agg (Bz r q).toArray] U (by kernel_rfl) ?_;refine Ad (Bu U (Bz r q) (.agg _) U U H ?_);rintro b1 w - H;refine AZ U HC H ?_;rintro b2 w - H;refine Ab (Aa (Cv [([0,1,3,4,5],2),([7],6),([],8),([9,10],11)] (fun z=>z.heap[b1]? = some (Bl 55 (Bz r q))) [8,11] Bq (by kernel_rfl) (H.drew.get at1) ?_));refine AH U U ?_;refine An U Ey U (B0 U G5 U (fun _ hx=>(by rw [Aj hx]; rfl)) ?_);refine An U EF U (An U CN U (B0 U Ei U (fun _ hx=>(by rw [Aj hx]; rfl)) ?_));refine AS ?_;replace H:=H.drew;refine Al U Adw (W9 _ _ _ r.ids _ (RA.I.ext0 H.ext) U (by omega)) U ?_;rintro v w F;obtain ⟨a5,n5,c5,f5,rfl,O5,hb5⟩:=F.ex;obtain rfl:=O5.num;replace H:Ctx w0 [] w ((b2,Bl 55 rnd0)::(b1,Bl 55 (Bz r q))::ent a5 28 f5):=H.callEnt F.ext hb5 F9
 refine Ab (Cl (H.get at1) (AH U U ?_));refine An U Ey U (AS (Al U Adx (WC _ _ _ r.es _ (RA.E.ext0 H.ext) U (by omega)) U ?_));rintro v w F;obtain ⟨a9,n9,c9,f9,rfl,O9,hb9⟩:=F.ex;obtain rfl:=O9.numN (fun _ _=>rfl) (by decide);replace H:Ctx w0 [] w ((b2,Bl 55 rnd0)::(b1,Bl 55 (Bz r q))::(ent a5 28 f5++ent a9 59 f9)):=H.callEnt F.ext hb9 F9;refine Ab (Cl (H.get at1) (AH U U ?_));refine AS (Cg (.slice _ _ _) U Acp U U U H at1 (by (simp; done)) ?_);rintro w H;refine Ab (B3 U (AH U U ?_));refine An U EF U (An U CN U (AS (Cg (.slice _ _ _) U Acq U U U H at1 (by (simp; done)) ?_)));rintro w H;refine Ab (B3 U (BJ ?_))
 change Ctx w0 [] w ((b2,Bl 55 rnd0)::(b1,Bl 55 (Bz r ⟨a5,c5,a9,c9,q.aF,q.cF,q.aP,q.cP⟩))::(ent a5 28 f5++ent a9 59 f9)) at H
 refine Cv [([0,1,2,4,5,6],3),([],7),([8,9],10)] (fun z=>z.heap[b1]? = some (Bl 55 (Bz r ⟨a5,c5,a9,c9,q.aF,q.cF,q.aP,q.cP⟩))) [10] Bq (by kernel_rfl) (H.drew.get at1) ?_;refine AH U U ?_;refine An U D6 U (An U Fm U (B0 U BL U (fun _ hx=>(by rw [Aj hx]; rfl)) ?_));refine An U D6 U (An U Gg U (B0 U BL U (fun _ hx=>(by rw [Aj hx]; rfl)) ?_));refine AS ?_;replace H:=H.drew;refine Al U Tl (LP _ _ _ r.fl _ (RA.F.ext0 H.ext) U (by omega)) U ?_;rintro v w F;obtain ⟨a6,n6,c6,f6,rfl,O6,hb6⟩:=F.ex;obtain rfl:=O6.num;replace H:Ctx w0 [] w ((b2,Bl 55 rnd0)::(b1,Bl 55 (Bz r ⟨a5,c5,a9,c9,q.aF,q.cF,q.aP,q.cP⟩))::(ent a5 28 f5++ent a9 59 f9++ent a6 2 f6)):=H.callEnt F.ext hb6 F9;refine Ab (Cl (H.get at1) (AH U U ?_));refine AS (Al U Tl (LP _ _ _ r.pot _ (RA.P.ext0 H.ext) U (by omega)) U ?_);rintro v w F;obtain ⟨a7,n7,c7,f7,rfl,O7,hb7⟩:=F.ex;obtain rfl:=O7.num
 replace H:Ctx w0 [] w ((b2,Bl 55 rnd0)::(b1,Bl 55 (Bz r ⟨a5,c5,a9,c9,q.aF,q.cF,q.aP,q.cP⟩))::(ent a5 28 f5++ent a9 59 f9++ent a6 2 f6++ent a7 2 f7)):=H.callEnt F.ext hb7 F9;refine Ab (Cl (H.get at1) (AH U U ?_));refine QO [.slice a6 r.fl.length c6,.slice a7 r.pot.length c7] U Ack U4 (by kernel_rfl) ?_;refine An U D6 U (AS (GC U Mf U U U (by simp [Be]) H at1 (show 0+6+2≤8 by decide) ?_));rintro w H;refine Ab (B3 U (BJ ?_))
 change Ctx w0 [] w ((b2,Bl 55 rnd0)::(b1,Bl 55 (Bz r ⟨a5,c5,a9,c9,a6,c6,a7,c7⟩))::(ent a5 28 f5++ent a9 59 f9++ent a6 2 f6++ent a7 2 f7)) at H
 refine Ad (Ce U G6 DB U H at1 U (Bn U DB U U U (by simp [Be]) H at0 U ?_));rintro w H;refine Ab (Aa (A5 (JC U U U G6 DB H at0 U ?_)));have hm:∀ x,x∈ent a5 28 f5++ent a9 59 f9++ent a6 2 f6++ent a7 2 f7→w.heap[x.1]? = some x.2∧w0.heap.size≤x.1:=fun x hx=>⟨H.blk x (List.mem_append_right [_,_] hx),(H.own x (List.mem_append_right [_,_] hx)).elim (fun h=>by cases h) id⟩
 have hoff:∀ {t:TypeId} {a:Option Addr} {n c s:Nat} {f l:List Value},OS a n c s f l→(∀ x∈ent a t f,w0.heap.size≤x.1)→0<n→¬ (adr a).block<w0.heap.size:=fun {t a n c s f l} O h hn=>by
  obtain ⟨q,rfl⟩:=O.form hn;have:=h (q,Bl t f) (List.mem_singleton.2 rfl);exact Nat.not_lt.2 this
 have m5:∀ x∈ent a5 28 f5,_:=fun x hx=>hm x (List.mem_append_left _ (List.mem_append_left _ (List.mem_append_left _ hx)));have m9:∀ x∈ent a9 59 f9,_:=fun x hx=>hm x (List.mem_append_left _ (List.mem_append_left _ (List.mem_append_right _ hx)));have m6:∀ x∈ent a6 2 f6,_:=fun x hx=>hm x (List.mem_append_left _ (List.mem_append_right _ hx));have m7:∀ x∈ent a7 2 f7,_:=fun x hx=>hm x (List.mem_append_right _ hx)
 exact ⟨H.ext,⟨a5,c5,a9,c9,a6,c6,a7,c7⟩,rfl,⟨O5.rd1 fun x hx=>(m5 x hx).1,OS.rd O9 (fun x hx=>(m9 x hx).1) (fun _ _=>rfl) (by decide),O6.rd1 fun x hx=>(m6 x hx).1,O7.rd1 fun x hx=>(m7 x hx).1,O6.le⟩,
  ⟨fun h=>hoff O5 (fun x hx=>(m5 x hx).2) (List.length_pos_iff.2 h),fun h=>hoff O9 (fun x hx=>(m9 x hx).2) (List.length_pos_iff.2 h),fun h=>hoff O6 (fun x hx=>(m6 x hx).2) (List.length_pos_iff.2 h),fun h=>hoff O7 (fun x hx=>(m7 x hx).2) (List.length_pos_iff.2 h)⟩⟩
end Go.Proofs.YtdagmpmdcgedcaaGreat

/- The archive: put, Add, No. -/
namespace Go.Proofs.YtdagmpmdcgedcaaGreat
open Go.GV
attribute [local irreducible] AB W Wq Wt

theorem Q1:∀ {vs l:List Value} {i j:Nat},i+vs.length≤j→(over l i vs)[j]? = l[j]?
 | [],_,_,_,_=>rfl
 | v::vs,l,i,j,h=>by
  have h1:i+1+vs.length≤j:=by rw [List.length_cons] at h; omega
  show (over (l.set i v) (i+1) vs)[j]? = _;rw [Q1 h1,List.getElem?_set_ne (by omega)]
theorem Q2:∀ {vs l:List Value} {i j:Nat},j<i→(over l i vs)[j]? = l[j]?
 | [],_,_,_,_=>rfl
 | v::vs,l,i,j,h=>by
  show (over (l.set i v) (i+1) vs)[j]? = _;rw [Q2 (by omega),List.getElem?_set_ne (by omega)]
theorem Vo:∀ {vs l:List Value} {i j:Nat},i+vs.length≤l.length→j<vs.length→(over l i vs)[i+j]? = vs[j]?
 | [],_,_,_,_,h=>by cases h
 | v::vs,l,i,0,h,_=>by
  show (over (l.set i v) (i+1) vs)[i+0]? = _;rw [Q2 (by omega),Nat.add_zero,List.getElem?_set_self (by rw [List.length_cons] at h; omega)];rfl
 | v::vs,l,i,j+1,h,hj=>by
  show (over (l.set i v) (i+1) vs)[i+(j+1)]? = vs[j]?;rw [show i+(j+1)=i+1+j by omega];exact Vo (by rw [List.length_set]; rw [List.length_cons] at h; omega) (by rw [List.length_cons] at hj; omega)
/-- An archive with one more. -/
def IR (arch:List Value) (n:Nat) (r:Rnd) (q:RSl):List Value:=((over arch ((r.no % 4).toNat*8) (Bz r q)).set 32 (.int .u64 ((min (n+1) 4:Nat):Int))).set 33 (.int .u64 r.no)
theorem Abv {w:World} {b1 b2:Nat} {o1 o2:Obj} (h1:w.heap[b1]? = some o1) (h2:w.heap[b2]? = some o2) (hne:b1≠b2):Ctx w [b1,b2] w [(b1,o1),(b2,o2)] :=
 ⟨Ext.refl _ _,fun y hy=>by
  simp only [List.mem_cons,List.not_mem_nil,or_false] at hy
  rcases hy with rfl | rfl
  ·exact h1
  ·exact h2,by simp only [List.pairwise_cons,List.mem_singleton,forall_eq,List.not_mem_nil,false_implies,implies_true,List.Pairwise.nil,and_true]; exact hne,fun y hy=>by
  simp only [List.mem_cons,List.not_mem_nil,or_false] at hy
  rcases hy with rfl | rfl
  ·exact .inl (List.mem_cons_self ..)
  ·exact .inl (List.mem_cons_of_mem _ (List.mem_cons_self ..))⟩
set_option maxRecDepth 20000 in
set_option maxHeartbeats 2000000 in
theorem Abw {br n:Nat} {arch:List Value} (r:Rnd) (q:RSl) (w:World) (RA:RAt w r q) (hr:RBnd r) (h0:w.heap[br]? = some (Bl 168 arch)) (hl:arch.length=34) (hn:arch[32]? = some (.int .u64 n)) (hn4:n≤4) (hno:0≤r.no∧r.no≤4611686018427387904) :
  Ret Tryz.prog 136 #[ptr br,.agg (Bz r q).toArray] w fun _ w'=>∃ q',Ctx w [br] w' [(br,Bl 168 (IR arch n r q'))]∧RAt w' r q'∧ROff q' r (fun x=>x<w.heap.size):=by
 obtain ⟨w0,rfl⟩:∃ w0,w0=w:=⟨_,rfl⟩;have H:=Ctx.start w0 [];refine Au (fn:=Tryz.f136) Tryz.func136 U [.pointer (some ⟨br,0,none⟩),.agg (Bz r q).toArray] U (by kernel_rfl) ?_;refine Ad (Bu U (Bz r q) (.agg _) U U H ?_);rintro b3 w - H;refine Ab (Aa ?_);have h3:0≤r.no % 4∧r.no % 4<4:=⟨Int.emod_nonneg _ (by decide),Int.emod_lt_of_pos _ (by decide)⟩;refine Cv [([0,1,2,3,4,6,7],5),([8],9)] (fun z=>z.heap[b3]? = some (Bl 55 (Bz r q))) [9] Bq (by kernel_rfl) (H.drew.get at0) ?_;refine AH U U ?_;refine BQ U U (An U JF U (B0 U B2 U (fun _ hx=>(by rw [Aj hx]; rfl)) ?_));refine t_rem U U U (by omega) (by omega) ?_;refine IW _ U G6 DB U U (fun _ hx=>(CU (b:=b3) (t:=55) (l:=Bz r q) hx 0 (Bz r q) rfl)) ?_;refine Bg U U (An U Rc U (AS ?_));replace H:=H.drew;have hx3:=H.ext;have hlb3:=Bb (H.get at0);have hb3:w0.heap.size≤b3:=(H.own _ (List.mem_cons_self ..)).elim (fun h=>by cases h) id;have hlbr:=Bb h0
 refine Al U Xn (Vn r q _ (RA.ext0 H.ext) hr) U ?_;rintro v w ⟨hx9,q',rfl,RA',hoff⟩;obtain ⟨w9,rfl⟩:∃ z,z=w:=⟨_,rfl⟩;have hE9:=hx3.trans hx9;replace H:Ctx w9 [br,b3] w9 [(br,Bl 168 arch),(b3,Bl 55 (Bz r q))]:=Abv (hE9.to h0 (by simp)) (hx9.to (H.get at0) (by simp)) (by omega);refine Ab (Cl (H.get at1) (AH U U ?_));refine SX U Xk DB U U (by omega) (by omega) ?_;refine AS (GC U DB U U U (by simp [Be]) H at0 (by omega) ?_);rintro w H;refine Ab (B3 U (BJ ?_));rw [show 0+0+(r.no % 4).toNat*8=(r.no % 4).toNat*8 by omega] at H;obtain ⟨A,hA⟩:∃ A,A=over arch ((r.no % 4).toNat*8) (Bz r q'):=⟨_,rfl⟩;rw [← hA] at H;have hAl:A.length=34:=by rw [hA,Dy]; exact hl
 have hAn:A[32]? = some (.int .u64 n):=by rw [hA,Q1 (by show (r.no % 4).toNat*8+8≤32; omega)]; exact hn
 refine Fa [([0,1,2,3,4,8,9],5),([6,7,10,11],12),([13,14],15)] (fun z=>z.heap[b3]? = some (Bl 55 (Bz r q))) [] Bq (by kernel_rfl) (H.drew.get at1) ?_;refine AH U U ?_;refine BQ U U (BQ U U (BQ U U (Bg U U (An U KP U (An U JF U (B0 U B2 U (fun _ hx=>(by rw [Aj hx]; rfl)) ?_))))));refine AS ?_;replace H:=H.drew;refine Bd U B2 U ((by rw [Aj (H.get at0)]; exact hAn)) ?_;refine Ab (Cl (H.get at1) (AH U U ?_));refine Vz U U U (by omega) (by omega) ?_;refine WV U U U ?_;refine Bg U U (An U KP U (AS (Cg (.int _ _) U Bi U U U H at0 (by (simp; omega)) ?_)));rintro w H;refine Ab (Cl (H.get at1) (AH U U ?_));refine Bg U U (An U FE U (AS (Cg (.int _ _) U Bi U U U H at0 (by (simp; omega)) ?_)));rintro w H;refine Ab (Cl (H.get at1) (BJ (CG U U ?_)));have hs3:=hx3.size;refine ⟨q',?_,RA'.ext H.ext (hoff.mono fun x hx=>?_),hoff.mono fun x hx=>Nat.lt_of_lt_of_le hx hs3⟩
 ·have h9:IR arch n r q'=(A.set (0+32) (.int .u64 (min ((n:Int)+1) 4))).set (0+33) (.int .u64 r.no):=by
   unfold IR;rw [← hA,show ((min (n+1) 4:Nat):Int)=min ((n:Int)+1) 4 by omega]
  rw [h9]
  exact ⟨(hE9.mono (S':=[br]) (by simp)).then H.ext (fun x hx=>by
   simp only [List.mem_cons,List.not_mem_nil,or_false] at hx
   rcases hx with rfl | rfl
   ·exact .inl (List.mem_singleton.2 U)
   ·exact .inr hb3),fun y hy=>by rw [List.mem_singleton.1 hy]; exact H.get at0,by simp,fun y hy=>by rw [List.mem_singleton.1 hy]; exact .inl (List.mem_singleton.2 rfl)⟩
 ·simp only [List.mem_cons,List.not_mem_nil,or_false] at hx
  rcases hx with rfl | rfl
  ·exact Nat.lt_of_lt_of_le hlbr hs3
  ·exact hlb3
end Go.Proofs.YtdagmpmdcgedcaaGreat

/- The archive: Add, No, Get. -/
namespace Go.Proofs.YtdagmpmdcgedcaaGreat
open Go.GV
attribute [local irreducible] AB W Wq Wt

theorem RAt.no {w:World} {r:Rnd} {q:RSl} (h:RAt w r q) (k d:Int):RAt w { r with no:=k,day:=d } q:=⟨h.I,h.E,h.F,h.P,h.fc⟩
theorem ROff.no {r:Rnd} {q:RSl} {S:Nat→Prop} (h:ROff q r S) (k d:Int):ROff q { r with no:=k,day:=d } S:=⟨h.I,h.E,h.F,h.P⟩
theorem RBnd.no {r:Rnd} (h:RBnd r) (k d:Int):RBnd { r with no:=k,day:=d }:=⟨h.N,h.es,h.ids,h.fl,h.pot⟩
set_option maxRecDepth 20000 in
set_option maxHeartbeats 2000000 in
theorem Abx {br n:Nat} {no:Int} {arch:List Value} (r:Rnd) (q:RSl) (w:World) (RA:RAt w r q) (hr:RBnd r) (h0:w.heap[br]? = some (Bl 168 arch)) (hl:arch.length=34) (hn:arch[32]? = some (.int .u64 n)) (hno:arch[33]? = some (.int .u64 no)) (hn4:n≤4) (hb:0≤no∧no<4611686018427387904) (hm:M6 r=true) :
  Ret Tryz.prog 115 #[ptr br,.agg (Bz r q).toArray] w fun v w'=>v = .tuple #[.int .u64 (no+1),.int .i64 0]∧∃ q',Ctx w [br] w' [(br,Bl 168 (IR arch n { r with no:=no+1 } q'))]∧RAt w' { r with no:=no+1 } q'∧ROff q' { r with no:=no+1 } (fun x=>x<w.heap.size):=by
 obtain ⟨w0,rfl⟩:∃ w0,w0=w:=⟨_,rfl⟩;have H:=Ctx.start w0 [];have hlbr:=Bb h0;refine Au (fn:=Tryz.f115) Tryz.func115 U [.pointer (some ⟨br,0,none⟩),.agg (Bz r q).toArray] U (by kernel_rfl) ?_;refine Ad (Bu U (Bz r q) (.agg _) U U H ?_);rintro b3 w - H;refine Ae U U (Ae U U (Ab (Aa (Aw (Az (Ad (A3 U U (Cq U N3 U ?_))))))));refine Ai U U (Ab (Aa (Aq _ U ?_ ?_)))
 ·intro h1;cases h1
 ·intro h1;refine Ad (Ce U G6 DB U H at0 U (Al U Adr (Abu r q _ (RA.ext0 H.ext) hr) U ?_));rintro v w ⟨rfl,hx11⟩;replace H:=H.call hx11;rw [hm];refine BG U U (Ai U U (Ab (Aa (Aq _ U ?_ ?_))))
  ·intro h2;replace h2:=BD h2;cases h2
  ·intro h2;replace h2:=BE h2;refine Ad (A3 U U (A8 U U (Ah U FE U (Bd U B2 U ((by rw [Aj (H.ext.to h0 (by simp))]; exact hno)) ?_))));refine C3 U U U (Ai U U (Ab (Aa (Aq _ U ?_ ?_))))
   ·intro h3;replace h3:=AM h3;omega
   ·intro h3;replace h3:=AN h3;refine Av (A6 (Aa (Ad (A3 U U (A8 U U (Ah U FE U (Bd U B2 U ((by rw [Aj (H.ext.to h0 (by simp))]; exact hno)) ?_)))))));refine EK U U U (by omega) (by omega) ?_;refine Ah U JF U (Cg (.int _ _) U Bi U U U H at0 (by (simp; done)) ?_);rintro w H;refine Ab (Aa (Ad (A3 U U (Ce U G6 DB U H at0 U ?_))));have hb3:w0.heap.size≤b3:=(H.own _ (List.mem_cons_self ..)).elim (fun h=>by cases h) id;refine Al U Ads (Abw (n:=n) (arch:=arch) { r with no:=no+1 } q _ ((RA.ext0 H.ext).no (no+1) r.day) (hr.no (no+1) r.day) (H.ext.to h0 (by simp)) hl hn hn4 (by dsimp only; omega)) U ?_;rintro v w ⟨q',H2,RA',hoff⟩;have hx27:=H.ext;have hl27:=Bb (H.get at0);have h27:=H2.ext.to (H.get at0) (by rw [List.mem_singleton]; omega);have H:=Ctx.start1 h27;refine Ab (Aa (Ad (Ah U JF U (AE U B2 U H at0 U (Ae U U (Ae U U (Ab (Aa (A5 (BR (v1:=(.int _ _)) (v2:=(.int _ _)) U U U U ?_))))))))))
    have hsz:=hx27.size;exact ⟨rfl,q',⟨(hx27.mono (by simp)).trans H2.ext,H2.blk,H2.nd,fun y hy=>by rw [List.mem_singleton.1 hy]; exact .inl (List.mem_singleton.2 rfl)⟩,RA',hoff.mono fun x hx=>Nat.lt_of_lt_of_le hx hsz⟩
theorem Ag5 {br:Nat} {no:Int} {arch:List Value} (w:World) (h0:w.heap[br]? = some (Bl 168 arch)) (hno:arch[33]? = some (.int .u64 no)) :
  Ret Tryz.prog 53 #[ptr br] w fun v w'=>v = .int .u64 no∧Ext [] w w':=by
 obtain ⟨w0,rfl⟩:∃ w0,w0=w:=⟨_,rfl⟩;have H:=Ctx.start w0 [];refine Au (fn:=Tryz.f53) Tryz.func53 U [.pointer (some ⟨br,0,none⟩)] U (by kernel_rfl) ?_;refine Ad (Ae U U (Ab (Aa (Aw (Ad (A3 U U (Cq U N3 U ?_)))))));refine Ab (Aa (Aq _ U ?_ ?_))
 ·intro h1;cases h1
 ·intro h1;refine Av (Aa (Ad (A3 U U (A8 U U (Ah U FE U (Bd U B2 U ((by rw [Aj (H.ext.to h0 (by simp))]; exact hno)) ?_))))));refine Ae U U (Ab (Aa (A5 (AA (v:=(.int _ _)) U U U ?_))));exact ⟨rfl,H.ext⟩
end Go.Proofs.YtdagmpmdcgedcaaGreat

/- The archive: Get. -/
namespace Go.Proofs.YtdagmpmdcgedcaaGreat
open Go.GV
attribute [local irreducible] AB W Wq Wt

theorem NY {P:Program} {ops rest:List Oper} {e:Env} {dst:Option Tmp} {ty:TypeId} {pos:String} {af:Array Edge} {g:Option (Nat × Bool)} {C:World→Prop} {K:Env→Prop} {t t2:TypeId} {x:Operand} {a:Option Addr} {el:TypeId} (hg:AP ⟨dst,.binOp .eql t x (.const (.pointer none)) t2,ty,pos,af,g⟩ ops e=true) (hu:P.underlying t=some (.pointer el)) (hx:ev e x = .pointer a)
  (h:Wq P ops C K rest (put e dst (.bool a.isNone))):Wq P ops C K (⟨dst,.binOp .eql t x (.const (.pointer none)) t2,ty,pos,af,g⟩::rest) e :=
 DY hg (fun w _=>by
  have hq:eqGuard .eql t x (.const (.pointer none)) (.pointer a) (.pointer none)=pure ():=rfl;have he:ev e (.const (.pointer none)) = .pointer none:=rfl
  simp only [execOp,hx,he,hq,Sem.run_bind,Sem.run_pure,Result.andThen_ok,QP hu]) h
set_option maxRecDepth 20000 in
set_option maxHeartbeats 2000000 in
theorem S4 {br n:Nat} {no k:Int} {arch:List Value} (w:World) (h0:w.heap[br]? = some (Bl 168 arch)) (hn:arch[32]? = some (.int .u64 n)) (hno:arch[33]? = some (.int .u64 no)) (hb:0≤no∧no≤4611686018427387904) (hk0:0≤k∧k≤18446744073709551615) (hk:k≤no→(n:Int)≤no - k) :
  Ret Tryz.prog 120 #[ptr br,.int .u64 k] w fun v w'=>v = .tuple #[.agg (rnd0).toArray,.bool false]∧Ext [] w w':=by
 obtain ⟨w0,rfl⟩:∃ w0,w0=w:=⟨_,rfl⟩;have H:=Ctx.start w0 [];refine Au (fn:=Tryz.f120) Tryz.func120 U [.pointer (some ⟨br,0,none⟩),.int .u64 k] U (by kernel_rfl) ?_;refine Ad (AZ U HC H ?_);rintro b4 w - H;refine Ai U U (Ab (Aa (Aw ?_)))
 by_cases hkn:no<k
 ·skip
  refine Dx (fun x=>x=_) Bq (by kernel_rfl) U ?_;refine B4 U U (NY U N3 U ?_);refine CM U U (AU U U (B4 U U (AX U U (A2 U FE U (BP U B2 U (by rintro _ rfl; exact ((by rw [Aj (H.drew.ext.to h0 (by simp))]; exact hno))) ?_)))));refine OA U U U ?_;rw [decide_eq_true hkn];refine GF U U (.bool _) U (CM U U (Ax U (Ax U (Ax U (Ax U (Ax U (Ax U (Ax U (Ax U ?_)))))))));refine Ax U (Ax U (Ax U (Hx U U (.bool _) U (BK ?_))));rintro _ rfl;replace H:=H.drew;refine D3 U (Ad (B7 [.int .u64 0,.int .i64 0,.bool false,.slice none 0 0,.int .i64 0,.slice none 0 0,.slice none 0 0,.slice none 0 0] U U3 HC (by kernel_rfl) ?_));refine Bn U DB U U U (by simp [Be]) H at0 U ?_;rintro w H;refine Ai U U (Ab (Aa (A5 (Ao (Hy U U U G6 DB H at0 U (show _=(.bool _) from rfl) ?_)))));exact ⟨rfl,H.ext⟩
 ·skip
  refine Dx (fun x=>x=_) Bq (by kernel_rfl) U ?_;refine B4 U U (NY U N3 U ?_);refine CM U U (AU U U (B4 U U (AX U U (A2 U FE U (BP U B2 U (by rintro _ rfl; exact ((by rw [Aj (H.drew.ext.to h0 (by simp))]; exact hno))) ?_)))));refine OA U U U ?_;rw [decide_eq_false hkn];refine GF U U (.bool _) U (CM U U (B4 U U (AX U U (A2 U FE U (BP U B2 U (by rintro _ rfl; exact ((by rw [Aj (H.drew.ext.to h0 (by simp))]; exact hno))) ?_)))));refine AU U U (OB U U U (by omega) (by omega) ?_);refine B4 U U (AX U U (A2 U KP U (BP U B2 U (by rintro _ rfl; exact ((by rw [Aj (H.drew.ext.to h0 (by simp))]; exact hn))) ?_)));refine Ab8 U U U ?_;rw [decide_eq_true (show (n:Int)≤no - k from hk (by omega))];refine GF U U (.bool _) U (BK ?_);rintro _ rfl;replace H:=H.drew
  refine D3 U (Ad (B7 [.int .u64 0,.int .i64 0,.bool false,.slice none 0 0,.int .i64 0,.slice none 0 0,.slice none 0 0,.slice none 0 0] U U3 HC (by kernel_rfl) ?_));refine Bn U DB U U U (by simp [Be]) H at0 U ?_;rintro w H;refine Ai U U (Ab (Aa (A5 (Ao (Hy U U U G6 DB H at0 U (show _=(.bool _) from rfl) ?_)))));exact ⟨rfl,H.ext⟩
set_option maxRecDepth 20000 in
set_option maxHeartbeats 2000000 in
theorem Pu {br n:Nat} {no k:Int} {arch:List Value} {r:Rnd} {q:RSl} (w:World) (h0:w.heap[br]? = some (Bl 168 arch)) (hl:arch.length=34) (hn:arch[32]? = some (.int .u64 n)) (hno:arch[33]? = some (.int .u64 no)) (hb:0≤no∧no≤4611686018427387904) (hk0:0≤k∧k≤18446744073709551615) (hk:k≤no∧no - k<n)
  (hc:∀ j v,(Bz r q)[j]? = some v→arch[(k % 4).toNat*8+j]? = some v) (RA:RAt w r q) (hr:RBnd r) :
  Ret Tryz.prog 120 #[ptr br,.int .u64 k] w fun v w'=>Ext [] w w'∧∃ q',v = .tuple #[.agg (Bz r q').toArray,.bool true]∧RAt w' r q'∧ROff q' r (fun x=>x<w.heap.size):=by
 obtain ⟨w0,rfl⟩:∃ w0,w0=w:=⟨_,rfl⟩;have H:=Ctx.start w0 [];have h3:0≤k % 4∧k % 4<4:=⟨Int.emod_nonneg _ (by decide),Int.emod_lt_of_pos _ (by decide)⟩;refine Au (fn:=Tryz.f120) Tryz.func120 U [.pointer (some ⟨br,0,none⟩),.int .u64 k] U (by kernel_rfl) ?_;refine Ad (AZ U HC H ?_);rintro b4 w - H;refine Ai U U (Ab (Aa (Aw (Dx (fun x=>x=_) Bq (by kernel_rfl) U ?_))));refine B4 U U (NY U N3 U ?_);refine CM U U (AU U U (B4 U U (AX U U (A2 U FE U (BP U B2 U (by rintro _ rfl; exact ((by rw [Aj (H.drew.ext.to h0 (by simp))]; exact hno))) ?_)))));refine OA U U U ?_;rw [decide_eq_false (show ¬ no<k by omega)];refine GF U U (.bool _) U (CM U U (B4 U U (AX U U (A2 U FE U (BP U B2 U (by rintro _ rfl; exact ((by rw [Aj (H.drew.ext.to h0 (by simp))]; exact hno))) ?_)))));refine AU U U (OB U U U (by omega) (by omega) ?_)
 refine B4 U U (AX U U (A2 U KP U (BP U B2 U (by rintro _ rfl; exact ((by rw [Aj (H.drew.ext.to h0 (by simp))]; exact hn))) ?_)));refine Ab8 U U U ?_;rw [decide_eq_false (show ¬ (n:Int)≤no - k by omega)];refine GF U U (.bool _) U (BK ?_);rintro _ rfl;replace H:=H.drew;refine G9 U (Av (Aa (Ad (A3 U U (Af U U (Ac1 U U U (by omega) (by omega) ?_))))));refine A8 U U (Ah U Rc U (Mc U Xk DB U U (by omega) (by omega) ?_));refine Cn _ U G6 DB U U ((fun j v hv=>by rw [Aj (H.ext.to h0 (by simp)),show 0+0+(k % 4).toNat*8+j=(k % 4).toNat*8+j by omega]; exact hc j v hv)) ?_;have hx3:=H.ext;have hl4:=Bb (H.get at0);refine Al U Xn (Vn r q _ (RA.ext0 H.ext) hr) U ?_;rintro v w ⟨hx9,q',rfl,RA',hoff⟩;obtain ⟨w9,rfl⟩:∃ z,z=w:=⟨_,rfl⟩;have h4:=hx9.to (H.get at0) (by simp);have hb4:w0.heap.size≤b4:=(H.own _ (List.mem_cons_self ..)).elim (fun h=>by cases h) id;replace H:=Ctx.start1 h4
 refine Bn U DB U U U (by simp [Be]) H at0 U ?_;rintro w H;refine Ai U U (Ab (Aa (A5 (Hy U U U G6 DB H at0 U (show _=(.bool _) from rfl) ?_))));have hs3:=hx3.size;refine ⟨(hx3.trans hx9).then H.ext (fun x hx => .inr (by rw [List.mem_singleton.1 hx]; exact hb4)),q',rfl,RA'.ext H.ext (hoff.mono fun x hx=>by rw [List.mem_singleton.1 hx]; exact hl4),hoff.mono fun x hx=>Nat.lt_of_lt_of_le hx hs3⟩
end Go.Proofs.YtdagmpmdcgedcaaGreat

/- What the archive of a ledger keeps behind a round. -/
namespace Go.Proofs.YtdagmpmdcgedcaaGreat
open Go.GV
attribute [local irreducible] AB W Wq Wt

theorem Z3 {s:Ld} (h:s.Ok) {r x:Rnd} (hx:x∈Ir s.rn r):x=r∨(x∈s.rn∧s.no - 2≤x.no∧x.no≤s.no):=by
 obtain ⟨i,hi⟩:=List.mem_iff_getElem?.1 hx;unfold Ir at hi;rw [List.getElem?_drop] at hi
 rcases Nat.lt_or_ge (s.rn.length - 3+i) s.rn.length with h5 | h5
 ·rw [List.getElem?_append_left h5] at hi;have h1:=h.nos _ x hi;exact .inr ⟨List.mem_of_getElem? hi,by omega,by omega⟩
 ·rw [List.getElem?_append_right h5] at hi;left
  have h6:s.rn.length - 3+i - s.rn.length=0:=by
   have:=Cu hi;rw [List.length_singleton] at this;omega
  rw [h6] at hi;cases hi;rfl
theorem Aby (arch:List Value) (n:Nat) (r:Rnd) (q:RSl):(IR arch n r q).length=arch.length:=by
 unfold IR;rw [List.length_set,List.length_set,Dy]
theorem put_n {arch:List Value} (h:arch.length=34) (n:Nat) (r:Rnd) (q:RSl):(IR arch n r q)[32]? = some (.int .u64 ((min (n+1) 4:Nat):Int)):=by
 unfold IR;rw [List.getElem?_set_ne (by decide),List.getElem?_set_self (by rw [Dy]; omega)]
theorem Ag6 {arch:List Value} (h:arch.length=34) (n:Nat) (r:Rnd) (q:RSl):(IR arch n r q)[33]? = some (.int .u64 r.no):=by
 unfold IR;rw [List.getElem?_set_self (by rw [List.length_set,Dy]; omega)]
theorem Ag7 {arch:List Value} (h:arch.length=34) (n:Nat) {r:Rnd} {q:RSl} {j:Nat} {v:Value} (hj:(Bz r q)[j]? = some v):(IR arch n r q)[(r.no % 4).toNat*8+j]? = some v:=by
 have hlt:j<8:=Cu hj;have h3:0≤r.no % 4∧r.no % 4<4:=⟨Int.emod_nonneg _ (by decide),Int.emod_lt_of_pos _ (by decide)⟩;unfold IR;rw [List.getElem?_set_ne (by omega),List.getElem?_set_ne (by omega),Vo (by rw [h]; show _+8≤34; omega) hlt];exact hj
theorem Abz {arch:List Value} (n:Nat) {r x:Rnd} {q qx:RSl} {j:Nat} {v:Value} (hne:x.no % 4≠r.no % 4) (hj:(Bz x qx)[j]? = some v) (hc:arch[(x.no % 4).toNat*8+j]? = some v):(IR arch n r q)[(x.no % 4).toNat*8+j]? = some v:=by
 have hlt:j<8:=Cu hj;have h3:0≤r.no % 4∧r.no % 4<4:=⟨Int.emod_nonneg _ (by decide),Int.emod_lt_of_pos _ (by decide)⟩;have h4:0≤x.no % 4∧x.no % 4<4:=⟨Int.emod_nonneg _ (by decide),Int.emod_lt_of_pos _ (by decide)⟩;unfold IR;rw [List.getElem?_set_ne (by omega),List.getElem?_set_ne (by omega)]
 rcases Int.lt_or_gt_of_ne hne with h | h
 ·rw [Q2 (by omega)];exact hc
 ·rw [Q1 (by show (r.no % 4).toNat*8+8≤_; omega)];exact hc
theorem Ab0 {r:Rnd} (h:M6 r=true):RBnd r:=by
 unfold M6 at h;simp only [Bool.and_eq_true,decide_eq_true_eq] at h;obtain ⟨hc,hi,-⟩:=h;obtain ⟨h1,h2,-⟩:=F5.1 hc;obtain ⟨g1,g2,g3,-⟩:=C8 (Ck (E4 h1).1).2.1;have g4:=(Ck (E4 h1).1).1;have g5:=(Kr h2).1;exact ⟨⟨by omega,by omega⟩,by omega,by omega,by omega,by omega⟩
theorem WD {s:Ld} (h:s.Ok) {k:Int} {r:Rnd} (hg:Sq s k=some r):(k≤s.no∧s.no - k<s.rn.length)∧r∈s.rn∧r.no=k:=by
 unfold Sq at hg
 by_cases h1:k≤s.no∧s.no - k<s.rn.length
 ·rw [if_pos h1] at hg;have h2:=h.nos _ r hg;exact ⟨h1,List.mem_of_getElem? hg,by omega⟩
 ·rw [if_neg h1] at hg;cases hg
theorem Pv {s:Ld} (h:s.Ok) {k:Int} (hg:Sq s k=none) (hk:k≤s.no):(s.rn.length:Int)≤s.no - k:=by
 by_cases h1:s.no - k<s.rn.length
 ·unfold Sq at hg;rw [if_pos ⟨hk,h1⟩,List.getElem?_eq_none_iff] at hg;have:=h.kept;omega
 ·omega
/-- The ids that a ledger takes are those that it took. -/
theorem Ab1 {m m':Lm} {s s':Ld} (h1:m'.bl=m.bl) (h2:m'.br=m.br) (h3:m'.ba=m.ba) (h4:m'.bd=m.bd) (h5:m'.b=m.b) (h6:m'.a=m.a):Di m' s'=Di m s:=by
 obtain ⟨bl,ba,bd,br,b,a,c,full,o,arch⟩:=m;obtain ⟨bl',ba',bd',br',b',a',c',full',o',arch'⟩:=m';dsimp only at h1 h2 h3 h4 h5 h6;subst h1 h2 h3 h4 h5 h6;show bl'::br'::ba'::bd'::b'::(ent a' 43 full').map (fun x=>x.1)=bl'::br'::ba'::bd'::b'::(ent a' 43 full).map (fun x=>x.1);rw [Vl (f:=full') (g:=full)]
theorem LdIn.rnd {w w1 w':World} {m:Lm} {s:Ld} {T:Nat→Prop} {S:List Nat} {r:Rnd} {q:RSl} {full':List Value} {o':Obj} (I:LdIn w m s T) (he:Ext S w w') (hs:∀ x∈S,T x) (hok:(Oj s r).Ok)
  (O:OS m.a (Ft s.acs s.ds r).length m.c 2 full' ((Ft s.acs s.ds r).flatMap CP)) (M:CL .u64 (dm (Ga s.acs s.ds r)) o') (RA:RAt w' { r with no:=s.no+1,day:=s.day } q) (hoff:ROff q { r with no:=s.no+1,day:=s.day } (fun x=>x<w1.heap.size)) (hle:w.heap.size≤w1.heap.size) :
  LdIn w' ⟨m.bl,m.ba,m.bd,m.br,m.b,m.a,m.c,full',o',IR m.arch s.rn.length { r with no:=s.no+1,day:=s.day } q⟩ (Oj s r) (fun x=>T x∨x∈Di ⟨m.bl,m.ba,m.bd,m.br,m.b,m.a,m.c,full',o',IR m.arch s.rn.length { r with no:=s.no+1,day:=s.day } q⟩ (Oj s r)):=by
 have hid:∀ x,T x∨x∈Di ⟨m.bl,m.ba,m.bd,m.br,m.b,m.a,m.c,full',o',IR m.arch s.rn.length { r with no:=s.no+1,day:=s.day } q⟩ (Oj s r)→T x:=fun x hx=>by
  exact hx.elim id fun h=>I.own x (Eq.mp (congrArg (fun l=>x∈l) (Ab1 (m:=m) (s:=s) (m':=⟨m.bl,m.ba,m.bd,m.br,m.b,m.a,m.c,full',o',IR m.arch s.rn.length { r with no:=s.no+1,day:=s.day } q⟩) (s':=Oj s r) rfl rfl rfl rfl rfl rfl)) h)
 refine ⟨O,M,hok,by rw [Aby]; exact I.len,?_,Ag6 I.len _ _ _,fun x hx=>?_,fun x hx => .inr hx,fun x hx=>Nat.lt_of_lt_of_le (I.low x (hid x hx)) he.size⟩
 ·rw [put_n I.len];show _=some (Value.int .u64 (((Ir s.rn { r with no:=s.no+1,day:=s.day }).length:Nat):Int));rw [So I.ok.kept.1]
 ·rcases Z3 I.ok hx with rfl | ⟨h1,h2,h3⟩
  ·exact ⟨q,fun j v h=>Ag7 I.len _ h,RA,hoff.mono fun x hx=>Nat.lt_of_lt_of_le (I.low x (hid x hx)) hle⟩
  ·obtain ⟨qx,g1,g2,g3⟩:=I.kept x h1;exact ⟨qx,fun j v h=>Abz _ (by show x.no % 4≠(s.no+1) % 4; omega) h (g1 j v h),g2.ext he (g3.mono hs),g3.mono fun y hy=>hid y hy⟩
def Grows (T T':Nat→Prop) (w:World):Prop:=(∀ x,T x→T' x)∧(∀ x,T' x→T x∨w.heap.size≤x)
theorem Grows.refl (T:Nat→Prop) (w:World):Grows T T w:=⟨fun _ h=>h,fun _ h => .inl h⟩
theorem Grows.trans {T T' T'':Nat→Prop} {w w':World} (h:Grows T T' w) (k:Grows T' T'' w') (hs:w.heap.size≤w'.heap.size):Grows T T'' w :=
 ⟨fun x hx=>k.1 x (h.1 x hx),fun x hx=>(k.2 x hx).elim (fun h1=>h.2 x h1) fun h1 => .inr (Nat.le_trans hs h1)⟩
theorem LdIn.grow {w w':World} {m:Lm} {s:Ld} {T T':Nat→Prop} {S:List Nat} (I:LdIn w m s T) (he:Ext S w w') (hs:∀ x∈S,T x∨w.heap.size≤x) (g:Grows T T' w) (hl:∀ x,T' x→x<w'.heap.size):LdIn w' m s T' where
 O:=I.O
 M:=I.M
 ok:=I.ok
 len:=I.len
 n:=I.n
 no:=I.no
 kept:=fun r h=>by
  obtain ⟨q,h1,h2,h3⟩:=I.kept r h;have h4:=h3.or h2.lt;exact ⟨q,h1,h2.ext he (h4.mono hs),h4.mono g.2⟩
 own:=fun x hx=>g.1 x (I.own x hx)
 low:=hl
end Go.Proofs.YtdagmpmdcgedcaaGreat

/- A new ledger; what an archive lists; the state of a ledger. -/
namespace Go.Proofs.YtdagmpmdcgedcaaGreat
open Go.GV
attribute [local irreducible] AB W Wq Wt

def s00:Ld:=⟨0,[],[],1,[],0⟩
theorem Ag8:s00.Ok:=⟨by decide,by decide,fun d h=>(by cases h),by decide,by decide,fun i r h=>(by cases h),fun r h=>(by cases h)⟩
abbrev S5:List Value:=rnd0++(rnd0++(rnd0++(rnd0++[.int .u64 0,.int .u64 0])))
theorem Z4 (w:World):Ret Tryz.prog 46 #[] w fun v w'=>∃ b,v=ptr b∧Ctx w [] w' [(b,Bl 162 [.slice none 0 0])]:=by
 obtain ⟨w0,rfl⟩:∃ w0,w0=w:=⟨_,rfl⟩;have H:=Ctx.start w0 [];refine Au (fn:=Tryz.f46) Tryz.func46 U [] U (by kernel_rfl) ?_;refine Ad (Co U U (Ab (Aa (Ad (B7 [.slice none 0 0] U Afy Af8 (by kernel_rfl) ?_)))));refine Bu U [.slice none 0 0] (.agg _) U U H ?_;rintro b2 w - H;refine Co U U (Ab (Aa (A5 (AA (v:=(.pointer _)) U U U ?_))));exact ⟨b2,rfl,H⟩
theorem Z5 (w:World):Ret Tryz.prog 48 #[] w fun v w'=>∃ b,v=ptr b∧Ctx w [] w' [(b,Bl 168 S5)]:=by
 obtain ⟨w0,rfl⟩:∃ w0,w0=w:=⟨_,rfl⟩;have H:=Ctx.start w0 [];refine Au (fn:=Tryz.f48) Tryz.func48 U [] U (by kernel_rfl) ?_;refine Ad (Co U U (Ab (Aa (Ad (B7 S5 U Afz Af9 (by kernel_rfl) ?_)))));refine Bu U S5 (.agg _) U U H ?_;rintro b2 w - H;refine Co U U (Ab (Aa (A5 (AA (v:=(.pointer _)) U U U ?_))));exact ⟨b2,rfl,H⟩
theorem Ab2 (w:World):Ret Tryz.prog 16 #[] w fun v w'=>∃ m,v=ptr m.bl∧Ctx w [] w' (LL m s00)∧LdIn w' m s00 (fun x=>x∈Di m s00):=by
 obtain ⟨w0,rfl⟩:∃ w0,w0=w:=⟨_,rfl⟩;have H:=Ctx.start w0 [];refine Au (fn:=Tryz.f16) Tryz.func16 U [] U (by kernel_rfl) ?_;refine Ad (Co U U (Ab (Aa (Ad (Al U ca_46 (Z4 _) U ?_)))));rintro v w ⟨ba,rfl,H1⟩;replace H:Ctx w0 [] w [(ba,Bl 162 [.slice none 0 0])]:=H1;refine Al U ca_47 (Abc _) U ?_;rintro v w ⟨bd,b,o,rfl,hM,H1⟩;replace H:=Ctx.back (L1:=[]) (L2:=[_]) H H1;refine Al U ca_48 (Z5 _) U ?_;rintro v w ⟨br,rfl,H1⟩;replace H:=Ctx.back (L1:=[]) (L2:=[_,_,_]) H H1;refine B7 [ptr ba,ptr bd,ptr br,.int .i64 0] U Afx Af7 (by kernel_rfl) ?_;refine Bu U [ptr ba,ptr bd,ptr br,.int .i64 0] (.agg _) U U H ?_;rintro bl w - H;refine Co U U (Ab (Aa (A5 (AA (v:=(.pointer _)) U U U ?_))));have H1:Ctx w0 [] w (LL ⟨bl,ba,bd,br,b,none,0,[],o,S5⟩ s00):=H.perm (List.Perm.cons _ (List.Perm.cons _ (List.perm_append_comm (l₁:=[_,_]) (l₂:=[_]))))
 refine ⟨⟨bl,ba,bd,br,b,none,0,[],o,S5⟩,rfl,H1,OS.nil,hM,Ag8,rfl,rfl,rfl,fun r h=>(by cases h),fun x h=>h,fun x h=>?_⟩;obtain ⟨y,hy,rfl⟩:=List.mem_map.1 h;exact Bb (H1.blk y hy)
/-! ### What an archive lists -/
abbrev Z6 (x:Rnd × RSl):List Value:=Bz x.1 x.2
structure ARS where
 i:Nat
 a:Option Addr
 c:Nat
 full:List Value
 qs:List RSl
end Go.Proofs.YtdagmpmdcgedcaaGreat

/- Rounds that are the same are told to be; the state of a ledger; states that are the same. -/
namespace Go.Proofs.YtdagmpmdcgedcaaGreat
open Go.GV
attribute [local irreducible] AB W Wq Wt

set_option maxRecDepth 20000 in
set_option maxHeartbeats 4000000 in
theorem WE (r:Rnd) (q s:RSl) (w:World) (RA:RAt w r q) (RB:RAt w r s) (hr:RBnd r) :
  Ret Tryz.prog 121 #[.agg (Bz r q).toArray,.agg (Bz r s).toArray] w fun v w'=>v = .bool true∧Ext [] w w':=by
 obtain ⟨w0,rfl⟩:∃ w0,w0=w:=⟨_,rfl⟩;have H:=Ctx.start w0 [];have he:=hr.es;have hi:=hr.ids;have hf:=hr.fl;have hp:=hr.pot;refine Au (fn:=Tryz.f121) Tryz.func121 U [.agg (Bz r q).toArray,.agg (Bz r s).toArray] U (by kernel_rfl) ?_;refine Ad (Bu U (Bz r q) (.agg _) U U H ?_);rintro b2 w - H;refine Bu U (Bz r s) (.agg _) U U H ?_;rintro b3 w - H;refine Ai U U (Ab (Aa (Aw (Ad (Cw (α:=Unit) 73786976294838206208 (fun _=>[(65,.bool (false))]) (fun _ w'=>Ctx w0 [] w' [(b3,Bl 55 (Bz r s)),(b2,Bl 55 (Bz r q))]) U ?_ ?_)))))
 ·refine Ah U JF U (AE U B2 U H at1 U (Ah U JF U (AE U B2 U H at0 U (CI U U U (A7 U U (AV 13 U ?_ ?_))))))
  ·intro h1;replace h1:=CE h1;refine Ag U (Ag U (Ag U (Ag U (Ag U (AG U U (.bool _) U (A7 U U (Ag U (Ag U (Ag U ?_)))))))));refine Ag U (Ag U (AG U U (.bool _) U (A7 U U (Ag U (Ag U (Ag U (Ag U (Ag U (Ag U ?_)))))))));refine AG U U (.bool _) U (A7 U U (Ag U (Ag U (Ag U (Ag U (Ag U (Ag U (Ag U (AG U U (.bool _) U ?_)))))))));refine A7 U U (Ag U (Ag U (Ag U (Ag U (Ag U (Ag U (Ag U (Ag U (Ag U ?_)))))))));refine AG U U (.bool _) U (A7 U U (Ag U (Ag U (Ag U (Ag U (Ag U (Ag U (Ag U (Ag U ?_)))))))));refine Ag U (AG U U (.bool _) U (Ab ?_));exact ⟨rfl,(),rfl,⟨congrArg Value.bool (by (simp_all; done)),trivial⟩,H⟩
  ·intro h2;replace h2:=CF h2;refine Ah U KT U (AE U Bw U H at1 U (Ah U KT U (AE U Bw U H at0 U (CI U U U (AJ U U (.bool _) U (A7 U U (AV 20 U ?_ ?_)))))))
   ·intro h3;replace h3:=CE h3;refine Ag U (Ag U (Ag U (Ag U (Ag U (AG U U (.bool _) U (A7 U U (Ag U (Ag U (Ag U ?_)))))))));refine Ag U (Ag U (Ag U (AG U U (.bool _) U (A7 U U (Ag U (Ag U (Ag U (Ag U (Ag U ?_)))))))));refine Ag U (Ag U (AG U U (.bool _) U (A7 U U (Ag U (Ag U (Ag U (Ag U (Ag U (Ag U ?_)))))))));refine Ag U (Ag U (Ag U (AG U U (.bool _) U (A7 U U (Ag U (Ag U (Ag U (Ag U (Ag U ?_)))))))));refine Ag U (Ag U (Ag U (Ag U (AG U U (.bool _) U (Ab ?_)))));exact ⟨rfl,(),rfl,⟨congrArg Value.bool (by (simp_all; done)),trivial⟩,H⟩
   ·intro h4;replace h4:=CF h4;refine Ah U MG U (AE U JR U H at1 U (Ah U MG U (AE U JR U H at0 U (ZO un_4 U U U ?_))));refine AJ U U (.bool _) U (A7 U U (AV 27 U ?_ ?_))
    ·intro h5;refine Ag U (Ag U (Ag U (Ag U (Ag U (Ag U (AG U U (.bool _) U (A7 U U (Ag U (Ag U ?_)))))))));refine Ag U (Ag U (Ag U (Ag U (Ag U (AG U U (.bool _) U (A7 U U (Ag U (Ag U (Ag U ?_)))))))));refine Ag U (Ag U (Ag U (Ag U (Ag U (Ag U (AG U U (.bool _) U (A7 U U (Ag U (Ag U ?_)))))))));refine Ag U (Ag U (Ag U (Ag U (Ag U (Ag U (Ag U (AG U U (.bool _) U (Ab ?_))))))));exact ⟨rfl,(),rfl,⟨congrArg Value.bool (by (simp_all; done)),trivial⟩,H⟩
    ·intro h6;refine Ah U EF U (Cn _ U CV C7 U U ((CU (l:=Bz r q) (H.get at1) 4 [.int .i64 r.N,.slice q.aE r.es.length q.cE] U)) ?_);refine Ah U EF U (Cn _ U CV C7 U U ((CU (l:=Bz r s) (H.get at0) 4 [.int .i64 r.N,.slice s.aE r.es.length s.cE] U)) ?_);refine Al U Aec (Ua r.N r.N q.aE s.aE _ q.cE _ s.cE r.es r.es _ (RA.E.ext0 H.ext) U he (RB.E.ext0 H.ext) U he) U ?_;rintro v w ⟨rfl,hx32⟩;replace H:=H.call hx32;rw [show Ps r.N r.N r.es r.es=true by simp [Ps]];refine BG U U (AJ U U (.bool _) U (A7 U U (AV 35 U ?_ ?_)))
     ·intro h7;replace h7:=BD h7;refine Ag U (Ag U (Ag U (Ag U (Ag U (Ag U (Ag U (AG U U (.bool _) U (A7 U U (Ag U ?_)))))))));refine Ag U (Ag U (Ag U (Ag U (Ag U (Ag U (Ag U (Ag U (AG U U (.bool _) U (A7 U U ?_)))))))));refine Ag U (Ag U (Ag U (Ag U (Ag U (Ag U (Ag U (Ag U (Ag U (AG U U (.bool _) U ?_)))))))));refine Ab ?_;exact ⟨rfl,(),rfl,⟨congrArg Value.bool (by (simp_all; done)),trivial⟩,H⟩
     ·intro h8;replace h8:=BE h8;refine Ah U Ey U (AE U G5 U H at1 U (Bf U Br U (Ah U Ey U (AE U G5 U H at0 U (Bf U Br U (CI U U U (AJ U U (.bool _) U (A7 U U (AV 44 U ?_ ?_)))))))))
      ·intro h9;replace h9:=CE h9;refine Ag U (Ag U (Ag U (Ag U (Ag U (Ag U (Ag U (Ag U (Ag U (AG U U (.bool _) U ?_)))))))));refine A7 U U (Ag U (Ag U (Ag U (Ag U (Ag U (Ag U (Ag U (Ag U (Ag U ?_)))))))));refine AG U U (.bool _) U (Ab ?_);exact ⟨rfl,(),rfl,⟨congrArg Value.bool (by (simp_all; done)),trivial⟩,H⟩
      ·intro h10;replace h10:=CF h10;refine Ah U D6 U (Ah U Fm U (AE U BL U H at1 U (Bf U AR U (Ah U D6 U (Ah U Fm U (AE U BL U H at0 U (Bf U AR U (CI U U U (AJ U U (.bool _) U ?_)))))))));refine A7 U U (AV 55 U ?_ ?_)
       ·intro h11;replace h11:=CE h11;refine Ag U (Ag U (Ag U (Ag U (Ag U (Ag U (Ag U (Ag U (Ag U (AG U U (.bool _) U ?_)))))))));refine Ab ?_;exact ⟨rfl,(),rfl,⟨congrArg Value.bool (by (simp_all; done)),trivial⟩,H⟩
       ·intro h12;replace h12:=CF h12;refine Ah U D6 U (Ah U Gg U (AE U BL U H at1 U (Bf U AR U (Ah U D6 U (Ah U Gg U (AE U BL U H at0 U (Bf U AR U (CI U U U (AJ U U (.bool _) U ?_)))))))));refine Ab ?_;exact ⟨rfl,(),rfl,⟨congrArg Value.bool (by (simp_all; done)),trivial⟩,H⟩
 rintro - j65 w H;refine G9 U (Av (Aa (Aw (Ad (Ae U U (Ab (Aa (Az (Bv 19342739326857771957092400 (α:=Nat) (fun i=>[(5,.int .i64 (i:Int))]) (fun i w'=>i≤r.ids.length∧Ctx w0 [] w' [(b3,Bl 55 (Bz r s)),(b2,Bl 55 (Bz r q))]) (fun i=>r.ids.length - i) 0 U ?_ ?_ ?_)))))))))
 ·exact ⟨rfl,trivial⟩
 ·exact ⟨Nat.zero_le _,H⟩
 ·clear H;rintro i j w ⟨hii,H⟩;refine Aw (Ad (Af U U (Ah U Ey U (AE U G5 U H at1 U (Bf U Br U (Bj U U U (Ab (Aa (Aq _ U ?_ ?_)))))))))
  ·intro h2;replace h2:=AM h2;obtain ⟨x,hx⟩:=AD (l:=r.ids) (i:=i) (by omega);refine Av (Aa (Aw (Az (Dx (fun x=>x=_) Bq (by kernel_rfl) U ?_))));refine A2 U Ey U (BU U G5 U (by rintro _ rfl; exact H.drew) at1 U ?_);refine AU U U (BM RA.I U Br Bi U U (by omega) (by omega) (by rfl) ?_);refine BP U B2 U (by rintro _ rfl; exact (((RA.I.ext0 H.drew.ext).one (f:=FS) hx))) ?_;refine A2 U Ey U (BU U G5 U (by rintro _ rfl; exact H.drew) at0 U ?_);refine AU U U (BM RB.I U Br Bi U U (by omega) (by omega) (by rfl) ?_);refine BP U B2 U (by rintro _ rfl; exact (((RB.I.ext0 H.drew.ext).one (f:=FS) hx))) ?_;refine Ng U U U (BK ?_);rintro _ rfl;replace H:=H.drew;refine Aq _ U ?_ ?_
   ·intro h3;replace h3:=CE h3;omega
   ·intro h3;replace h3:=CF h3;refine Av (A6 (Aa (A0 (Af U U (Ay U U U (by omega) (by omega) ?_)))));refine Ae U U (Ab (Aa ?_));exact ⟨i+1,rfl,⟨rfl,trivial⟩,⟨by omega,H⟩,by omega⟩
  ·intro h2;replace h2:=AN h2;refine Bt (Am (Am (AK (Aa (Aw (Ad (Ae U U (Ab (Aa (Az (Bv 40564799864490227013827707273296 (α:=Nat) (fun i=>[(6,.int .i64 (i:Int))]) (fun i w'=>i≤r.fl.length∧Ctx w0 [] w' [(b3,Bl 55 (Bz r s)),(b2,Bl 55 (Bz r q))]) (fun i=>r.fl.length - i) 0 U ?_ ?_ ?_)))))))))))
   ·exact ⟨rfl,trivial⟩
   ·exact ⟨Nat.zero_le _,H⟩
   ·clear H;rintro i2 j2 w ⟨hii2,H⟩;refine Aw (Ad (Af U U (Ah U D6 U (Ah U Fm U (AE U BL U H at1 U (Bf U AR U (Bj U U U (Ab (Aa (Aq _ U ?_ ?_))))))))))
    ·intro h3;replace h3:=AM h3;obtain ⟨x,hx⟩:=AD (l:=r.fl) (i:=i2) (by omega);refine Av (Aa (Aw (Az (Dx (fun x=>x=_) Bq (by kernel_rfl) U ?_))));refine A2 U D6 U (A2 U Fm U (BU U BL U (by rintro _ rfl; exact H.drew) at1 U ?_));refine AU U U (BM RA.F U AR Bx U U (by omega) (by omega) (by rfl) ?_);refine BP U Bw U (by rintro _ rfl; exact (((RA.F.ext0 H.drew.ext).one (f:=Dq) hx))) ?_;refine A2 U D6 U (A2 U Fm U (BU U BL U (by rintro _ rfl; exact H.drew) at0 U ?_));refine AU U U (BM RB.F U AR Bx U U (by omega) (by omega) (by rfl) ?_);refine BP U Bw U (by rintro _ rfl; exact (((RB.F.ext0 H.drew.ext).one (f:=Dq) hx))) ?_;refine Ng U U U (BK ?_);rintro _ rfl;replace H:=H.drew;refine Aq _ U ?_ ?_
     ·intro h4;replace h4:=CE h4;omega
     ·intro h4;replace h4:=CF h4;refine Av (A6 (Aa (A0 (Af U U (Ay U U U (by omega) (by omega) ?_)))));refine Ae U U (Ab (Aa ?_));exact ⟨i2+1,rfl,⟨rfl,trivial⟩,⟨by omega,H⟩,by omega⟩
    ·intro h3;replace h3:=AN h3;refine Bt (Am (Am (AK (Aa (Aw (Ad (Ae U U (Ab (Aa (Az (Bv 85070551165415408562502803963439480976 (α:=Nat) (fun i=>[(7,.int .i64 (i:Int))]) (fun i w'=>i≤r.pot.length∧Ctx w0 [] w' [(b3,Bl 55 (Bz r s)),(b2,Bl 55 (Bz r q))]) (fun i=>r.pot.length - i) 0 U ?_ ?_ ?_)))))))))))
     ·exact ⟨rfl,trivial⟩
     ·exact ⟨Nat.zero_le _,H⟩
     ·clear H;rintro i3 j3 w ⟨hii3,H⟩;refine Aw (Ad (Af U U (Ah U D6 U (Ah U Gg U (AE U BL U H at1 U (Bf U AR U (Bj U U U (Ab (Aa (Aq _ U ?_ ?_))))))))))
      ·intro h4;replace h4:=AM h4;obtain ⟨x,hx⟩:=AD (l:=r.pot) (i:=i3) (by omega);refine Av (Aa (Aw (Az (Dx (fun x=>x=_) Bq (by kernel_rfl) U ?_))));refine A2 U D6 U (A2 U Gg U (BU U BL U (by rintro _ rfl; exact H.drew) at1 U ?_));refine AU U U (BM RA.P U AR Bx U U (by omega) (by omega) (by rfl) ?_);refine BP U Bw U (by rintro _ rfl; exact (((RA.P.ext0 H.drew.ext).one (f:=Dq) hx))) ?_;refine A2 U D6 U (A2 U Gg U (BU U BL U (by rintro _ rfl; exact H.drew) at0 U ?_));refine AU U U (BM RB.P U AR Bx U U (by omega) (by omega) (by rfl) ?_);refine BP U Bw U (by rintro _ rfl; exact (((RB.P.ext0 H.drew.ext).one (f:=Dq) hx))) ?_;refine Ng U U U (BK ?_);rintro _ rfl;replace H:=H.drew;refine Aq _ U ?_ ?_
       ·intro h5;replace h5:=CE h5;omega
       ·intro h5;replace h5:=CF h5;refine Av (A6 (Aa (A0 (Af U U (Ay U U U (by omega) (by omega) ?_)))));refine Ae U U (Ab (Aa ?_));exact ⟨i3+1,rfl,⟨rfl,trivial⟩,⟨by omega,H⟩,by omega⟩
      ·intro h4;replace h4:=AN h4;refine Bt (Am (Am (AK (Aa (Ad (Ai U U (Ab (Aa (A5 (AA (v:=(.bool _)) U U U ?_))))))))));exact ⟨rfl,H.ext⟩
set_option maxRecDepth 20000 in
theorem WF (a b:Option Addr) (n c m d:Nat) (rn:List Rnd) (qs zs:List RSl) (w:World) (R:Rd w a 8 Z6 (rn.zip qs)) (hn:rn.length=n) (hn2:n≤1000000) (Ry:Rd w b 8 Z6 (rn.zip zs)) (hm:rn.length=m) (hq:qs.length=rn.length) (hz:zs.length=rn.length)
  (K:∀ x∈rn.zip qs,RAt w x.1 x.2) (Ky:∀ x∈rn.zip zs,RAt w x.1 x.2) (hB:∀ r∈rn,RBnd r) :
  Ret Tryz.prog 70 #[.slice a n c,.slice b m d] w fun v w'=>v = .bool true∧Ext [] w w':=by
 subst hn hm;obtain ⟨w0,rfl⟩:∃ w0,w0=w:=⟨_,rfl⟩;have H:=Ctx.start w0 [];have hzq:(rn.zip qs).length=rn.length:=by rw [List.length_zip]; omega
 have hzz:(rn.zip zs).length=rn.length:=by rw [List.length_zip]; omega
 refine Au (fn:=Tryz.f70) Tryz.func70 U [.slice a rn.length c,.slice b rn.length d] U (by kernel_rfl) ?_;refine Ad (Ai U U (Ab (Aa (Aw (Ad (A4 U U (Bf U Rb U (A4 U U (Bf U Rb U (CI U U U ?_))))))))));refine Ab (Aa (Aq _ U ?_ ?_))
 ·intro h1;replace h1:=CE h1;omega
 ·intro h1;replace h1:=CF h1;refine Av (Aa (Aw (Ad (Ae U U (Ab (Aa (Az (Bv 134215728 (α:=Nat) (fun i=>[(5,.int .i64 (i:Int))]) (fun i w'=>i≤rn.length∧Ctx w0 [] w' []) (fun i=>rn.length - i) 0 U ?_ ?_ ?_))))))))
  ·exact ⟨rfl,trivial⟩
  ·exact ⟨Nat.zero_le _,H⟩
  ·clear H;rintro i j w ⟨hi,H⟩;refine Aw (Ad (Af U U (A4 U U (Bf U Rb U (Bj U U U (Ab (Aa (Aq _ U ?_ ?_))))))))
   ·intro h2;replace h2:=AM h2;obtain ⟨r,hr⟩:=AD (l:=rn) (i:=i) (by omega);obtain ⟨q,hqi⟩:=AD (l:=qs) (i:=i) (by omega);obtain ⟨z,hzi⟩:=AD (l:=zs) (i:=i) (by omega);have hx:(rn.zip qs)[i]? = some (r,q):=List.getElem?_zip_eq_some.2 ⟨hr,hqi⟩;have hy:(rn.zip zs)[i]? = some (r,z):=List.getElem?_zip_eq_some.2 ⟨hr,hzi⟩;refine Av (Aa (Aw (Az (DM 8 Bq (by kernel_rfl) U U ?_))));refine Ca U U (AU U U (BM R U Rb DB U U (by omega) (by omega) (by omega) ?_));refine FT _ U G6 DB U U (by rintro _ rfl; exact ((R.ext0 H.drew.ext).row hx rfl)) ?_;refine Ca U U (AU U U (BM Ry U Rb DB U U (by omega) (by omega) (by omega) ?_));refine FT _ U G6 DB U U (by rintro _ rfl; exact ((Ry.ext0 H.drew.ext).row hy rfl)) ?_;refine BK ?_;replace H:=H.drew;refine Al U Adq (WE r q z _ ((K _ (List.mem_of_getElem? hx)).ext0 H.ext) ((Ky _ (List.mem_of_getElem? hy)).ext0 H.ext) (hB r (List.mem_of_getElem? hr))) U ?_
    rintro v w ⟨rfl,hx25⟩;replace H:=H.call hx25;refine BG U U (Ab (Aa (Aq _ U ?_ ?_)))
    ·intro h3;replace h3:=BD h3;cases h3
    ·intro h3;replace h3:=BE h3;refine Av (A6 (Aa (A0 (Af U U (Ay U U U (by omega) (by omega) ?_)))));refine Ae U U (Ab (Aa ?_));exact ⟨i+1,rfl,⟨rfl,trivial⟩,⟨by omega,H⟩,by omega⟩
   ·intro h2;replace h2:=AN h2;refine Bt (Am (Am (AK (Aa (Ad (Ai U U (Ab (Aa (A5 (AA (v:=(.bool _)) U U U ?_))))))))));exact ⟨rfl,H.ext⟩
/-! ### States -/
structure StZ where
 aA:Option Addr
 cA:Nat
 aD:Option Addr
 cD:Nat
 aR:Option Addr
 cR:Nat
 qs:List RSl
abbrev stC (s:Ld) (z:StZ):List Value:=[.int .i64 s.day,.slice z.aA s.acs.length z.cA,.slice z.aD s.ds.length z.cD,.int .u64 s.nx,.slice z.aR s.rn.length z.cR,.int .u64 s.no,.slice none 0 0]
structure StAt (w:World) (s:Ld) (z:StZ):Prop where
 A:Rd w z.aA 2 CP s.acs
 D:Rd w z.aD 7 CO s.ds
 R:Rd w z.aR 8 Z6 (s.rn.zip z.qs)
 n:z.qs.length=s.rn.length
 K:∀ x∈s.rn.zip z.qs,RAt w x.1 x.2
structure StOff (s:Ld) (z:StZ) (S:Nat→Prop):Prop where
 A:s.acs≠[]→¬ S (adr z.aA).block
 D:s.ds≠[]→¬ S (adr z.aD).block
 R:s.rn≠[]→¬ S (adr z.aR).block
 K:∀ x∈s.rn.zip z.qs,ROff x.2 x.1 S
theorem Ag9 {rn:List Rnd} {qs:List RSl} (h:rn.zip qs≠[]):rn≠[]:=fun h1=>h (by rw [h1]; rfl)
theorem StOff.mono {s:Ld} {z:StZ} {S S':Nat→Prop} (h:StOff s z S) (hs:∀ x,S' x→S x):StOff s z S':=⟨fun g k=>h.A g (hs _ k),fun g k=>h.D g (hs _ k),fun g k=>h.R g (hs _ k),fun x hx=>(h.K x hx).mono hs⟩
theorem StOff.or {s:Ld} {z:StZ} {S S':Nat→Prop} (h:StOff s z S) (k:StOff s z S'):StOff s z (fun x=>S x∨S' x):=⟨fun g x=>x.elim (h.A g) (k.A g),fun g x=>x.elim (h.D g) (k.D g),fun g x=>x.elim (h.R g) (k.R g),fun x hx=>(h.K x hx).or (k.K x hx)⟩
theorem StAt.ext {w w':World} {s:Ld} {z:StZ} {S:List Nat} (h:StAt w s z) (he:Ext S w w') (hn:StOff s z (·∈S)):StAt w' s z :=
 ⟨h.A.ext' he hn.A,h.D.ext' he hn.D,h.R.ext' he fun g=>hn.R (Ag9 g),h.n,fun x hx=>(h.K x hx).ext he (hn.K x hx)⟩
theorem StAt.ext0 {w w':World} {s:Ld} {z:StZ} (h:StAt w s z) (he:Ext [] w w'):StAt w' s z :=
 h.ext he ⟨fun _=>by simp,fun _=>by simp,fun _=>by simp,fun x _=>⟨fun _=>by simp,fun _=>by simp,fun _=>by simp,fun _=>by simp⟩⟩
theorem StAt.lt {w:World} {s:Ld} {z:StZ} (h:StAt w s z):StOff s z (fun x=>w.heap.size≤x) :=
 ⟨fun g=>Nat.not_le.2 (h.A.lt' (fun _ _=>rfl) (by decide) g),fun g=>Nat.not_le.2 (h.D.lt' (fun _ _=>rfl) (by decide) g),fun g=>Nat.not_le.2 (h.R.lt' (fun _ _=>rfl) (by decide) fun h1=>g (by
  have h2:=congrArg List.length h1;rw [List.length_zip,h.n,Nat.min_self] at h2
  exact List.length_eq_zero_iff.1 h2)),fun x hx=>(h.K x hx).lt⟩
end Go.Proofs.YtdagmpmdcgedcaaGreat

/- SettleKeeps: what a round keeps. -/
namespace Go.Proofs.YtdagmpmdcgedcaaGreat
open Go.GV
attribute [local irreducible] AB W Wq Wt

/-- The place so far. -/
def M8 (acs:List Ac) (ds:List Du) (k i:Nat):Int:=(acs.getD k a00).ba+Cm ((ds.take i).map fun d=>plc k d*d.am)
theorem Pw {acs:List Ac} {ds:List Du} {k i:Nat} {d:Du} (h:ds[i]? = some d):M8 acs ds k (i+1)=M8 acs ds k i - (if d.fr=(k:Int) then d.am else 0)+(if d.to=(k:Int) then d.am else 0):=by
 unfold M8;rw [Lj h,EP];have h1:Cm [plc k d*d.am]=plc k d*d.am:=by rw [BV]; show _+0=_; omega
 rw [h1];unfold plc
 by_cases g1:d.to=(k:Int)
 ·rw [FM g1,if_pos g1]
  by_cases g2:d.fr=(k:Int)
  ·rw [FM g2,if_pos g2]; omega
  ·rw [Fj g2,if_neg g2]; omega
 ·rw [Fj g1,if_neg g1]
  by_cases g2:d.fr=(k:Int)
  ·rw [FM g2,if_pos g2]; omega
  ·rw [Fj g2,if_neg g2]; omega
theorem S6 {acs:List Ac} {ds:List Du} {k:Nat} (hb:0≤(acs.getD k a00).ba∧(acs.getD k a00).ba≤4503599627370496) (ham:∀ d∈ds,0≤d.am∧d.am≤4503599627370496):∀ i,i≤ds.length → -(4503599627370496*((i:Int)+1))≤M8 acs ds k i∧M8 acs ds k i≤4503599627370496*((i:Int)+1)
 | 0,_=>by
  have h:M8 acs ds k 0=(acs.getD k a00).ba+0:=rfl;rw [h]; omega
 | i+1,h=>by
  have ih:=S6 hb ham i (by omega);obtain ⟨d,hd⟩:=AD (l:=ds) (i:=i) (by omega);have h1:=ham d (List.mem_of_getElem? hd);rw [Pw hd]
  split <;> split <;> omega
end Go.Proofs.YtdagmpmdcgedcaaGreat

/- The ledger: place (printed by gen/genLeY.py). -/
namespace Go.Proofs.YtdagmpmdcgedcaaGreat
open Go.GV
attribute [local irreducible] AB W Wq Wt

set_option maxRecDepth 20000 in
set_option maxHeartbeats 1000000 in
theorem WG {m:Lm} {s:Ld} {T:Nat→Prop} {k:Ak} (hk:k.kd=13) (hin:AkIn k) (w:World) (I:LdIn w m s T) (H0:Ctx w (Di m s) w (LL m s)) :
  Ret Tryz.prog 65 #[ptr m.bl,.agg (Cd k).toArray] w (FP w m s T k):=by
 obtain ⟨w0,rfl⟩:∃ w0,w0=w:=⟨_,rfl⟩;obtain ⟨bl,ba,bd,br,b,a,c,full,o,arch⟩:=m;obtain ⟨S0,hS0⟩:∃ S,S=Di ⟨bl,ba,bd,br,b,a,c,full,o,arch⟩ s:=⟨_,rfl⟩;have H:Ctx w0 S0 w0 ((bl,Bl 106 [ptr ba,ptr bd,ptr br,.int .i64 s.day])::(br,Bl 168 arch)::(ba,Bl 162 [.slice a s.acs.length c])::(bd,Bl 165 (DU b s.nx))::(b,o)::ent a 43 full):=by rw [hS0]; exact H0
 have hn16:=(Ch.1 I.ok.ac).1;have hbdb:bd≠b:=H.ne (i:=3) (j:=4) rfl rfl (by decide);have hR:Fe s k=if inA s.acs k.a=true then ⟨0,[J6 s.acs s.ds k.a.toNat]⟩ else ⟨10,[]⟩:=by unfold Fe; rw [if_neg (by omega),if_neg (by omega),if_neg (by omega),if_neg (by omega),if_neg (by omega),if_neg (by omega),if_neg (by omega),if_neg (by omega),if_neg (by omega),if_neg (by omega),if_pos hk]
 have hS:EI s k=s:=by unfold EI; rw [if_neg (by omega),if_neg (by omega),if_neg (by omega),if_neg (by omega),if_neg (by omega),if_neg (by omega),if_neg (by omega),if_neg (by omega),if_neg (by omega)]
 have hstep:∀ p,Fe s k=p→CR s k s p:=fun p h2=>by
  unfold CR;rw [if_neg (by omega)];exact ⟨hS.symm,h2.symm⟩
 refine Au (fn:=Tryz.f65) Tryz.func65 U [.pointer (some ⟨bl,0,none⟩),.agg (Cd k).toArray] U (by kernel_rfl) ?_;refine Ad (Bu U (Cd k) (.agg _) U U H ?_);rintro b3 w - H;refine A1 U U (Ae U U (Ab (Aa (DE 2095296 (α:=Nat) (fun z=>[(6,ptr z),(7,.bool (inA s.acs k.a))]) (fun z w'=>Ctx w0 S0 w' ((z,Bl 43 (CP (Dg s.acs k.a)))::(b3,Bl 40 (Cd k))::(bl,Bl 106 [ptr ba,ptr bd,ptr br,.int .i64 s.day])::(br,Bl 168 arch)::(ba,Bl 162 [.slice a s.acs.length c])::(bd,Bl 165 (DU b s.nx))::(b,o)::ent a 43 full)) U ?_ ?_))))
 ·skip
  refine MZ (.two [0,1,2,3,4,5] 6 (.one [7,8,9] 10 (.one [] 11 (.one [] 12 .stop))) 10 (.one [] 6 (.one [7,8,9] 11 (.one [] 12 .stop)))) (fun z=>z.heap[b3]? = some (Bl 40 (Cd k))∧z.heap[bl]? = some (Bl 106 [ptr ba,ptr bd,ptr br,.int .i64 s.day])) Bq (by kernel_rfl) (⟨H.drew.get at0,H.drew.get at1⟩) ?_;refine HM U U U ?_;refine BQ U U (Bg U U (An U FD U (B0 U Ic U (fun _ hx=>(by rw [Aj hx.2]; rfl)) ?_)));refine An U FG U (B0 U BS U (fun _ hx=>(by rw [Aj hx.1]; rfl)) ?_);refine AS ?_;replace H:=H.drew;refine ⟨?_,?_⟩
  ·skip
   refine Al U PJ (MO a _ c s.acs k.a _ (H.get at3) (OS.rd (t:=43) I.O (fun y hy=>H.blk y (List.mem_append_right [_,_,_,_,_,_] hy)) (fun _ _=>rfl) (by decide)) U (by omega)) U ?_;rintro v w ⟨rfl,hx18⟩;replace H:=H.call hx18;refine Ab (BH (by exact ⟨H.get at0,H.get at1⟩) ?_);refine BF U U ?_;refine D5 U U (Bs U U U (Bs U U U (AS (AZ U IX H ?_))));rintro b6 w - H;refine Ab (BH (by exact ⟨H.get at1,H.get at2⟩) ?_);refine BF U U ?_;refine AS (Bn U Ek U U U (by exact Im _) H at0 U ?_);rintro w H;refine Ab (BH (by exact ⟨H.get at1,H.get at2⟩) ?_);refine BF U U ?_;refine AS (Ai U U (Ab (BH (by exact ⟨H.get at1,H.get at2⟩) ?_)));refine DO ?_;refine Aa ?_;exact ⟨b6,rfl,⟨rfl,rfl,trivial⟩,H⟩
  ·skip
   refine AZ U IX H ?_;rintro b6 w - H;refine Ab (BH (by exact ⟨H.get at1,H.get at2⟩) ?_);refine BF U U ?_;refine AS (Al U PJ (MO a _ c s.acs k.a _ (H.get at4) (OS.rd (t:=43) I.O (fun y hy=>H.blk y (List.mem_append_right [_,_,_,_,_,_,_] hy)) (fun _ _=>rfl) (by decide)) U (by omega)) U ?_);rintro v w ⟨rfl,hx18⟩;replace H:=H.call hx18;refine Ab (BH (by exact ⟨H.get at1,H.get at2⟩) ?_);refine BF U U ?_;refine D5 U U (Bs U U U (Bs U U U (AS (Bn U Ek U U U (by exact Im _) H at0 U ?_))));rintro w H;refine Ab (BH (by exact ⟨H.get at1,H.get at2⟩) ?_);refine BF U U ?_;refine AS (Ai U U (Ab (BH (by exact ⟨H.get at1,H.get at2⟩) ?_)));refine DO ?_;refine Aa ?_;exact ⟨b6,rfl,⟨rfl,rfl,trivial⟩,H⟩
 ·rintro b6 j7 w H;refine Aw (Ad (A7 U U (BG U U (Ab (Aa (Aq _ U ?_ ?_))))))
  ·intro h1;replace h1:=BD h1
   have hf:inA s.acs k.a=false:=by cases hh:inA s.acs k.a with | false=>rfl | true=>rw [hh] at h1; cases h1
   refine Ad (A1 U U (Ae U U (Ab (Aa (A5 (Ao (BR (v1:=(.slice _ _ _)) (v2:=(.int _ _)) U U U U ?_)))))));subst hS0;exact D9 (P:=[_,_]) (m':=⟨bl,ba,bd,br,b,a,c,full,o,arch⟩) (s':=s) (l:=[]) (code:=10) I H (Hr _) (hstep _ (by rw [hR,if_neg (by rw [hf]; decide)]; rfl)) I.O I.M I.ok U U U U
  ·intro h1;replace h1:=BE h1
   have hf:inA s.acs k.a=true:=by cases hh:inA s.acs k.a with | true=>rfl | false=>rw [hh] at h1; cases h1
   have hki:=Gj.1 hf;have hka:((k.a.toNat:Nat):Int)=k.a:=by omega
   have hga:=Iq I.ok.ac hf;have hgd:s.acs.getD k.a.toNat a00=Dg s.acs k.a:=Bm (EV hf)
   have h0:M8 s.acs s.ds k.a.toNat 0=(Dg s.acs k.a).ba:=by
    have:M8 s.acs s.ds k.a.toNat 0=(s.acs.getD k.a.toNat a00).ba+0:=rfl;rw [this,hgd,Int.add_zero]
   obtain ⟨h64,-,-,-⟩:=FO I.ok.du;have hmy:∀ d∈s.ds,DT d=true:=fun d hd=>((GK I.ok.du).1 d hd).1;have ham:∀ d∈s.ds,0≤d.am∧d.am≤4503599627370496:=fun d hd=>by have:=D7 (hmy d hd); omega
   refine Av (Aa (Ad (Ah U FH U (AE U Bw U H at0 U (Ae U U (Ab (Aa (Aw (Ad (A3 U U (A8 U U ?_)))))))))));refine Ah U Ff U (AE U FA U H at2 U (Al U Me (Ip I.ok.du _ ⟨b,s.nx,o,H.get at5,H.get at6,I.M⟩) U ?_));rintro v w ⟨hx29,a3,c3,rfl,R3⟩;replace H:=H.call hx29;refine Bf U Dh U (Af U U (Ab (Aa (Az ?_))));have H8:=H;obtain ⟨w1,rfl⟩:∃ z,z=w:=⟨_,rfl⟩;have hb3:=H8.get at1;clear H;have H:=Ctx.start w1 [];refine Bv 18014396361999616 (α:=Nat) (fun i=>[(8,.int .i64 (M8 s.acs s.ds k.a.toNat i)),(31,.int .i64 (i:Int))]) (fun i w'=>i≤s.ds.length∧Ctx w1 [] w' []) (fun i=>s.ds.length - i) 0 U ?_ ?_ ?_
   ·exact ⟨by rw [h0]; rfl,rfl,trivial⟩
   ·exact ⟨Nat.zero_le _,H⟩
   ·clear H;rintro i j w ⟨hi,H⟩;refine Ad (Bj U U U (Ab (Aa (Aw (Aq _ U ?_ ?_)))))
    ·intro h2;replace h2:=AM h2;obtain ⟨d,hd⟩:=AD (l:=s.ds) (i:=i) (by omega);have hbi:=S6 (acs:=s.acs) (ds:=s.ds) (k:=k.a.toNat) (by rw [hgd]; exact hga.1) ham i hi;have hda:=ham d (List.mem_of_getElem? hd);have hdn:=(D7 (hmy d (List.mem_of_getElem? hd))).2.2.1;have hst:=Pw (acs:=s.acs) (k:=k.a.toNat) hd;rw [hka] at hst;obtain ⟨S,hS⟩:∃ S,S=M8 s.acs s.ds k.a.toNat i:=⟨_,rfl⟩;rw [← hS] at hbi hst ⊢;refine Av (Aa (Aw (Az (Ad (Bo (R3.ext0 H.ext) U Dh Cj U U (by omega) (by omega) (by rfl) ?_)))));refine Cn _ U EW Cj U U (((R3.ext0 H.ext).row hd U)) ?_;refine AZ U Et H ?_;rintro b10 w - H;refine Bn U Cj U U U (by exact CY _) H at0 U ?_;rintro w H;refine Ab (Aa ?_);replace H:Ctx w1 [] w [(b10,Bl 67 (CO d))]:=H;refine Ad (Ah U FG U (Bd U BS U ((H.old (Aj hb3 _) (by simp))) ?_));refine Ab (Aa (Az (Ad (Ah U I6 U (AE U BS U H at0 U (Cz U U U (Ai U U (Ab (Aa (Aq _ U ?_ ?_))))))))))
     ·intro h3;replace h3:=AM h3;refine A0 (Af U U (Ah U ET U (AE U Bw U H at0 U (Bp U U U (by omega) (by omega) ?_))));refine Ae U U (Ab (A6 (A6 (Aa (A0 (Ay U U U (by omega) (by omega) ?_))))));refine Af U U (Ab (Aa ?_));exact ⟨i+1,rfl,⟨congrArg (Value.int .i64) (by rw [hst,if_pos h3.symm,if_neg (by omega)]; omega),rfl,trivial⟩,⟨by omega,H.tail⟩,by omega⟩
     ·intro h3;replace h3:=AN h3;refine Ad (Ah U I8 U (AE U BS U H at0 U (Cz U U U (Ai U U (Ab (Aa (Aq _ U ?_ ?_)))))))
      ·intro h4;replace h4:=AM h4;refine A0 (Af U U (Ah U ET U (AE U Bw U H at0 U (Ay U U U (by omega) (by omega) ?_))));refine Ae U U (Ab (A6 (A6 (Aa (A0 (Ay U U U (by omega) (by omega) ?_))))));refine Af U U (Ab (Aa ?_));exact ⟨i+1,rfl,⟨congrArg (Value.int .i64) (by rw [hst,if_neg (by omega),if_pos h4.symm]; omega),rfl,trivial⟩,⟨by omega,H.tail⟩,by omega⟩
      ·intro h4;replace h4:=AN h4;refine Av (A6 (A6 (Aa (A0 (Ay U U U (by omega) (by omega) ?_)))));refine Af U U (Ab (Aa ?_));exact ⟨i+1,rfl,⟨congrArg (Value.int .i64) (by rw [hst,if_neg (by omega),if_neg (by omega)]; omega),rfl,trivial⟩,⟨by omega,H.tail⟩,by omega⟩
    ·intro h2;replace h2:=AN h2;obtain rfl:i=s.ds.length:=by omega
     have hfin:M8 s.acs s.ds k.a.toNat s.ds.length=J6 s.acs s.ds k.a.toNat:=by
      unfold M8 J6;rw [List.take_length]
     rw [hfin];have H9:=H8.call H.ext;have H17:=Ctx.start w [];refine Bt (Am (Am (AK (Aa (Ad (Af U U (Ci [.int .i64 (J6 s.acs s.ds k.a.toNat)] (.int .i64 (J6 s.acs s.ds k.a.toNat)) U AR Bx Eb U (by decide) (by decide) U U U H17 ?_)))))));rintro b55 w2 - H17;refine A1 U U (Ae U U (Ab (Aa (A5 (BR (v1:=(.slice _ _ _)) (v2:=(.int _ _)) U U U U ?_)))));subst hS0;exact D9 (P:=[_,_]) (m':=⟨bl,ba,bd,br,b,a,c,full,o,arch⟩) (s':=s) (l:=[J6 s.acs s.ds k.a.toNat]) (code:=0) I H9 (Gc (n:=1) (l:=[Dq (J6 s.acs s.ds k.a.toNat)]) H17 U) (hstep _ (by rw [hR,if_pos hf]; rfl)) I.O I.M I.ok U U U U
end Go.Proofs.YtdagmpmdcgedcaaGreat

/- The ledger: audit (printed by gen/genLfB.py). -/
namespace Go.Proofs.YtdagmpmdcgedcaaGreat
open Go.GV
attribute [local irreducible] AB W Wq Wt

theorem WH {r:Rnd} (h:M6 r=true):(1≤r.N∧r.N≤40)∧r.es.length≤200∧r.fl.length=r.es.length∧(r.pot.length:Int)=r.N∧r.ids.length≤64:=by
 unfold M6 at h;simp only [Bool.and_eq_true,decide_eq_true_eq] at h;obtain ⟨hc,hi,-⟩:=h;obtain ⟨h1,h2,-⟩:=F5.1 hc;obtain ⟨g1,g2,g3,-⟩:=C8 (Ck (E4 h1).1).2.1;exact ⟨⟨g1,g2⟩,g3,(Ck (E4 h1).1).1,(Kr h2).1,hi⟩
set_option maxRecDepth 20000 in
set_option maxHeartbeats 1000000 in
theorem Ud {m:Lm} {s:Ld} {T:Nat→Prop} {k:Ak} (hk:k.kd=15) (hin:AkIn k) (hg:Sq s k.id=none) (w:World) (I:LdIn w m s T) (H0:Ctx w (Di m s) w (LL m s)) :
  Ret Tryz.prog 67 #[ptr m.bl,.agg (Cd k).toArray] w (FP w m s T k):=by
 obtain ⟨w0,rfl⟩:∃ w0,w0=w:=⟨_,rfl⟩;obtain ⟨bl,ba,bd,br,b,a,c,full,o,arch⟩:=m;obtain ⟨S0,hS0⟩:∃ S,S=Di ⟨bl,ba,bd,br,b,a,c,full,o,arch⟩ s:=⟨_,rfl⟩;have H:Ctx w0 S0 w0 ((bl,Bl 106 [ptr ba,ptr bd,ptr br,.int .i64 s.day])::(br,Bl 168 arch)::(ba,Bl 162 [.slice a s.acs.length c])::(bd,Bl 165 (DU b s.nx))::(b,o)::ent a 43 full):=by rw [hS0]; exact H0
 have hn16:=(Ch.1 I.ok.ac).1;have hbdb:bd≠b:=H.ne (i:=3) (j:=4) rfl rfl (by decide);have hS:EI s k=s:=by unfold EI; rw [if_neg (by omega),if_neg (by omega),if_neg (by omega),if_neg (by omega),if_neg (by omega),if_neg (by omega),if_neg (by omega),if_neg (by omega),if_neg (by omega)]
 have hstep:∀ p,Fe s k=p→CR s k s p:=fun p h2=>by
  unfold CR;rw [if_neg (by omega)];exact ⟨hS.symm,h2.symm⟩
 have hno:0≤s.no∧s.no≤4611686018427387904:=by have:=I.ok.kept; omega
 have hR:Fe s k=⟨4,[]⟩:=by unfold Fe; rw [if_neg (by omega),if_neg (by omega),if_neg (by omega),if_neg (by omega),if_neg (by omega),if_neg (by omega),if_neg (by omega),if_neg (by omega),if_neg (by omega),if_neg (by omega),if_neg (by omega),if_neg (by omega),if_pos hk,hg]
 refine Au (fn:=Tryz.f67) Tryz.func67 U [.pointer (some ⟨bl,0,none⟩),.agg (Cd k).toArray] U (by kernel_rfl) ?_;refine Ad (Bu U (Cd k) (.agg _) U U H ?_);rintro b3 w - H;refine A1 U U (Ae U U (Ab (Aa (DE 4190400 (α:=Nat) (fun z=>[(6,ptr z),(7,.bool false)]) (fun z w'=>Ctx w0 S0 w' ((z,Bl 55 rnd0)::(b3,Bl 40 (Cd k))::(bl,Bl 106 [ptr ba,ptr bd,ptr br,.int .i64 s.day])::(br,Bl 168 arch)::(ba,Bl 162 [.slice a s.acs.length c])::(bd,Bl 165 (DU b s.nx))::(b,o)::ent a 43 full)) U ?_ ?_))))
 ·skip
  refine MZ (.two [0,1,2,3,4,5] 6 (.one [7,8,9] 10 (.one [] 11 (.one [] 12 .stop))) 10 (.one [] 6 (.one [7,8,9] 11 (.one [] 12 .stop)))) (fun z=>z.heap[b3]? = some (Bl 40 (Cd k))∧z.heap[bl]? = some (Bl 106 [ptr ba,ptr bd,ptr br,.int .i64 s.day])) Bq (by kernel_rfl) (⟨H.drew.get at0,H.drew.get at1⟩) ?_;refine HM U U U ?_;refine BQ U U (Bg U U (An U KM U (B0 U PF U (fun _ hx=>(by rw [Aj hx.2]; rfl)) ?_)));refine An U JE U (B0 U B2 U (fun _ hx=>(by rw [Aj hx.1]; rfl)) ?_);refine AS ?_;replace H:=H.drew;refine ⟨?_,?_⟩
  ·skip
   refine Al U PK (S4 (n:=s.rn.length) _ (H.get at2) I.n I.no hno hin.id (Pv I.ok hg)) U ?_;rintro v w ⟨rfl,hx19⟩;replace H:=H.call hx19;refine Ab (BH (by exact ⟨H.get at0,H.get at1⟩) ?_);refine BF U U ?_;refine D5 U U (Bs U U U (Bs U U U (AS (AZ U HC H ?_))));rintro b6 w - H;refine Ab (BH (by exact ⟨H.get at1,H.get at2⟩) ?_);refine BF U U ?_;refine AS (Bn U DB U U U (by exact (by simp [rnd0,Be])) H at0 U ?_);rintro w H;refine Ab (BH (by exact ⟨H.get at1,H.get at2⟩) ?_);refine BF U U ?_;refine AS (Ai U U (Ab (BH (by exact ⟨H.get at1,H.get at2⟩) ?_)));refine DO ?_;refine Aa ?_;exact ⟨b6,rfl,⟨rfl,rfl,trivial⟩,H⟩
  ·skip
   refine AZ U HC H ?_;rintro b6 w - H;refine Ab (BH (by exact ⟨H.get at1,H.get at2⟩) ?_);refine BF U U ?_;refine AS (Al U PK (S4 (n:=s.rn.length) _ (H.get at3) I.n I.no hno hin.id (Pv I.ok hg)) U ?_);rintro v w ⟨rfl,hx19⟩;replace H:=H.call hx19;refine Ab (BH (by exact ⟨H.get at1,H.get at2⟩) ?_);refine BF U U ?_;refine D5 U U (Bs U U U (Bs U U U (AS (Bn U DB U U U (by exact (by simp [rnd0,Be])) H at0 U ?_))));rintro w H;refine Ab (BH (by exact ⟨H.get at1,H.get at2⟩) ?_);refine BF U U ?_;refine AS (Ai U U (Ab (BH (by exact ⟨H.get at1,H.get at2⟩) ?_)));refine DO ?_;refine Aa ?_;exact ⟨b6,rfl,⟨rfl,rfl,trivial⟩,H⟩
 ·rintro b6 j7 w H;refine Aw (Ad (A7 U U (BG U U (Ab (Aa (Aq _ U ?_ ?_))))))
  ·intro h1;replace h1:=BD h1;refine Ad (A1 U U (Ae U U (Ab (Aa (A5 (Ao (BR (v1:=(.slice _ _ _)) (v2:=(.int _ _)) U U U U ?_)))))));subst hS0;exact D9 (P:=[_,_]) (m':=⟨bl,ba,bd,br,b,a,c,full,o,arch⟩) (s':=s) (l:=[]) (code:=4) I H (Hr _) (hstep _ (by rw [hR]; rfl)) I.O I.M I.ok U U U U
  ·intro h1;replace h1:=BE h1;cases h1
set_option maxRecDepth 20000 in
set_option maxHeartbeats 1000000 in
theorem Ue {m:Lm} {s:Ld} {T:Nat→Prop} {k:Ak} (hk:k.kd=15) (hin:AkIn k) {r:Rnd} (hg:Sq s k.id=some r) (w:World) (I:LdIn w m s T) (H0:Ctx w (Di m s) w (LL m s)) :
  Ret Tryz.prog 67 #[ptr m.bl,.agg (Cd k).toArray] w (FP w m s T k):=by
 obtain ⟨w0,rfl⟩:∃ w0,w0=w:=⟨_,rfl⟩;obtain ⟨bl,ba,bd,br,b,a,c,full,o,arch⟩:=m;obtain ⟨S0,hS0⟩:∃ S,S=Di ⟨bl,ba,bd,br,b,a,c,full,o,arch⟩ s:=⟨_,rfl⟩;have H:Ctx w0 S0 w0 ((bl,Bl 106 [ptr ba,ptr bd,ptr br,.int .i64 s.day])::(br,Bl 168 arch)::(ba,Bl 162 [.slice a s.acs.length c])::(bd,Bl 165 (DU b s.nx))::(b,o)::ent a 43 full):=by rw [hS0]; exact H0
 have hn16:=(Ch.1 I.ok.ac).1;have hbdb:bd≠b:=H.ne (i:=3) (j:=4) rfl rfl (by decide);have hS:EI s k=s:=by unfold EI; rw [if_neg (by omega),if_neg (by omega),if_neg (by omega),if_neg (by omega),if_neg (by omega),if_neg (by omega),if_neg (by omega),if_neg (by omega),if_neg (by omega)]
 have hstep:∀ p,Fe s k=p→CR s k s p:=fun p h2=>by
  unfold CR;rw [if_neg (by omega)];exact ⟨hS.symm,h2.symm⟩
 have hno:0≤s.no∧s.no≤4611686018427387904:=by have:=I.ok.kept; omega
 have hR:Fe s k=K3 r k.b:=by unfold Fe; rw [if_neg (by omega),if_neg (by omega),if_neg (by omega),if_neg (by omega),if_neg (by omega),if_neg (by omega),if_neg (by omega),if_neg (by omega),if_neg (by omega),if_neg (by omega),if_neg (by omega),if_neg (by omega),if_pos hk,hg]
 obtain ⟨hg1,hgm,hgn⟩:=WD I.ok hg;have hmay:=I.ok.may r hgm;have hB:=Ab0 hmay;obtain ⟨hm1,hm2,hm3,hm4,hm5⟩:=WH hmay;obtain ⟨q,hq1,hq2,hq3⟩:=I.kept r hgm;rw [hgn] at hq1;refine Au (fn:=Tryz.f67) Tryz.func67 U [.pointer (some ⟨bl,0,none⟩),.agg (Cd k).toArray] U (by kernel_rfl) ?_;refine Ad (Bu U (Cd k) (.agg _) U U H ?_);rintro b3 w - H;refine A1 U U (Ae U U (Ab (Aa (DE 4190400 (α:=Nat × RSl) (fun z=>[(6,ptr z.1),(7,.bool true)]) (fun z w'=>RAt w' r z.2∧Ctx w0 S0 w' ((z.1,Bl 55 (Bz r z.2))::(b3,Bl 40 (Cd k))::(bl,Bl 106 [ptr ba,ptr bd,ptr br,.int .i64 s.day])::(br,Bl 168 arch)::(ba,Bl 162 [.slice a s.acs.length c])::(bd,Bl 165 (DU b s.nx))::(b,o)::ent a 43 full)) U ?_ ?_))))
 ·skip
  refine MZ (.two [0,1,2,3,4,5] 6 (.one [7,8,9] 10 (.one [] 11 (.one [] 12 .stop))) 10 (.one [] 6 (.one [7,8,9] 11 (.one [] 12 .stop)))) (fun z=>z.heap[b3]? = some (Bl 40 (Cd k))∧z.heap[bl]? = some (Bl 106 [ptr ba,ptr bd,ptr br,.int .i64 s.day])) Bq (by kernel_rfl) (⟨H.drew.get at0,H.drew.get at1⟩) ?_;refine HM U U U ?_;refine BQ U U (Bg U U (An U KM U (B0 U PF U (fun _ hx=>(by rw [Aj hx.2]; rfl)) ?_)));refine An U JE U (B0 U B2 U (fun _ hx=>(by rw [Aj hx.1]; rfl)) ?_);refine AS ?_;replace H:=H.drew;refine ⟨?_,?_⟩
  ·skip
   refine Al U PK (Pu (n:=s.rn.length) (r:=r) (q:=q) _ (H.get at2) I.len I.n I.no hno hin.id hg1 hq1 (hq2.ext H.ext (hq3.mono fun x hx=>I.own x (by rw [← hS0]; exact hx))) hB) U ?_;rintro v w ⟨hx19,q',rfl,RA,hoff⟩;have H9:=H.call hx19;clear H;obtain ⟨w9,rfl⟩:∃ z,z=w:=⟨_,rfl⟩;have H:=Ctx.start w9 [];refine Ab (BH (by exact ⟨H.ext.to (H9.get at0) (by simp),H.ext.to (H9.get at1) (by simp)⟩) ?_);refine BF U U ?_;refine D5 U U (Bs U U U (Bs U U U (AS (AZ U HC H ?_))));rintro b6 w - H;refine Ab (BH (by exact ⟨H.ext.to (H9.get at0) (by simp),H.ext.to (H9.get at1) (by simp)⟩) ?_);refine BF U U ?_;refine AS (Bn U DB U U U (by simp [Be]) H at0 U ?_);rintro w H;refine Ab (BH (by exact ⟨H.ext.to (H9.get at0) (by simp),H.ext.to (H9.get at1) (by simp)⟩) ?_);refine BF U U ?_;refine AS (Ai U U (Ab (BH (by exact ⟨H.ext.to (H9.get at0) (by simp),H.ext.to (H9.get at1) (by simp)⟩) ?_)));refine DO ?_
   refine Aa ?_;exact ⟨(b6,q'),rfl,⟨rfl,rfl,trivial⟩,RA.ext0 H.ext,Ctx.mid (B:=[]) (L:=[]) H9 H⟩
  ·skip
   refine AZ U HC H ?_;rintro b6 w - H;refine Ab (BH (by exact ⟨H.get at1,H.get at2⟩) ?_);refine BF U U ?_;refine AS (Al U PK (Pu (n:=s.rn.length) (r:=r) (q:=q) _ (H.get at3) I.len I.n I.no hno hin.id hg1 hq1 (hq2.ext H.ext (hq3.mono fun x hx=>I.own x (by rw [← hS0]; exact hx))) hB) U ?_);rintro v w ⟨hx19,q',rfl,RA,hoff⟩;have hlt:=Bb (H.get at0);have H9:=H.call hx19;clear H;obtain ⟨w9,rfl⟩:∃ z,z=w:=⟨_,rfl⟩;have H:=Ctx.start1 (H9.get at0);refine Ab (BH (by exact ⟨H.ext.to (H9.get at1) (by rw [List.mem_singleton]; exact H9.ne (i:=1) (j:=0) rfl rfl (by decide)),H.ext.to (H9.get at2) (by rw [List.mem_singleton]; exact H9.ne (i:=2) (j:=0) rfl rfl (by decide))⟩) ?_);refine BF U U ?_;refine D5 U U (Bs U U U (Bs U U U (AS (Bn U DB U U U (by simp [Be]) H at0 U ?_))));rintro w H
   refine Ab (BH (by exact ⟨H.ext.to (H9.get at1) (by rw [List.mem_singleton]; exact H9.ne (i:=1) (j:=0) rfl rfl (by decide)),H.ext.to (H9.get at2) (by rw [List.mem_singleton]; exact H9.ne (i:=2) (j:=0) rfl rfl (by decide))⟩) ?_);refine BF U U ?_;refine AS (Ai U U (Ab (BH (by exact ⟨H.ext.to (H9.get at1) (by rw [List.mem_singleton]; exact H9.ne (i:=1) (j:=0) rfl rfl (by decide)),H.ext.to (H9.get at2) (by rw [List.mem_singleton]; exact H9.ne (i:=2) (j:=0) rfl rfl (by decide))⟩) ?_)));refine DO ?_;refine Aa ?_;exact ⟨(b6,q'),rfl,⟨rfl,rfl,trivial⟩,RA.ext H.ext (hoff.mono fun x hx=>by rw [List.mem_singleton.1 hx]; exact hlt),Ctx.mid (B:=[]) (L:=[_]) H9 H⟩
 ·rintro ⟨b6,q'⟩ j7 w ⟨RA,H⟩;dsimp only at RA H;have H8:=H;have hb6:=H8.get at0;have hb3:=H8.get at1;obtain ⟨w1,rfl⟩:∃ z,z=w:=⟨_,rfl⟩;clear H;have H:=Ctx.start w1 [];refine Aw (Ad (A7 U U (BG U U (Ab (Aa (Aq _ U ?_ ?_))))))
  ·intro h1;replace h1:=BD h1;cases h1
  ·intro h1;replace h1:=BE h1;refine Av (Aa (Dx (fun x=>x=_) Bq (by kernel_rfl) U ?_));refine A2 U PU U (BP U BS U (by rintro _ rfl; exact ((by rw [Aj (H.drew.ext.to hb3 (by simp))]; rfl))) ?_);refine A2 U EF U (A2 U CN U (BP U Ei U (by rintro _ rfl; exact ((by rw [Aj (H.drew.ext.to hb6 (by simp))]; rfl))) ?_));refine Aca U CW U (Dm U U (Dm U U (BK ?_)));rintro _ rfl;replace H:=H.drew;refine Aw (Az (Ad (Cw (α:=Unit) 4396972769280 (fun _=>[(30,.bool ((decide (k.b < -1) || decide ((r.es.length:Int)+r.N≤k.b))))]) (fun _ w'=>Ctx w1 [] w' []) U ?_ ?_)))
   ·refine Af U U (Bj U U U (A7 U U (AV 33 U ?_ ?_)))
    ·intro h1;replace h1:=AM h1;refine Ag U (Ag U (Ag U (Ag U (Ag U (Ag U (Ag U (AG U U (.bool _) U (Ai U U (Ab ?_)))))))));exact ⟨rfl,(),rfl,⟨congrArg Value.bool (by rw [Bool.eq_iff_iff]; simp_all; try omega),trivial⟩,H⟩
    ·intro h2;replace h2:=AN h2;refine Af U U (Af U U (Ah U EF U (Ah U Ex U (Bd U BS U ((H.old (Aj hb6 _) (by simp))) ?_))));refine Ay U U U (by omega) (by omega) ?_;refine C3 U U U (AJ U U (.bool _) U (Ai U U (Ab ?_)));exact ⟨rfl,(),rfl,⟨congrArg Value.bool (by rw [Bool.eq_iff_iff]; simp_all; try omega),trivial⟩,H⟩
   rintro - j30 w H;refine Aq _ U ?_ ?_
   ·intro h2;have h2':k.b < -1∨(r.es.length:Int)+r.N≤k.b:=by simpa using h2
    refine Ad (A1 U U (Ae U U (Ab (Aa (A5 (A9 (Ao (BR (v1:=(.slice _ _ _)) (v2:=(.int _ _)) U U U U ?_))))))));have H9:=H8.call H.ext;subst hS0;exact D9 (P:=[_,_]) (m':=⟨bl,ba,bd,br,b,a,c,full,o,arch⟩) (s':=s) (l:=[]) (code:=1) I H9 (Hr _) (hstep _ (by rw [hR]; unfold K3; rw [if_pos h2']; rfl)) I.O I.M I.ok U U U U
   ·intro h2;have h2':¬ (k.b < -1∨(r.es.length:Int)+r.N≤k.b):=by simpa using h2
    refine Ad (Af U U (Cz U U U (Ai U U (Ab (Aa (Aq _ U ?_ ?_))))))
    ·intro h3;replace h3:=AM h3;refine Cv [([0,1,2,3,5,6,7,8,9,10,11],4),([],12),([13],14)] (fun z=>Ext [] w1 z) [] Bq (by kernel_rfl) (H.drew.ext) ?_;refine AH U U ?_;refine An U KT U (B0 U Bw U (fun _ hx=>(by rw [Aj (hx.to hb6 (by simp))]; rfl)) ?_);refine An U MG U (B0 U JR U (fun _ hx=>(by rw [Aj (hx.to hb6 (by simp))]; rfl)) ?_);refine An U EF U (An U Ex U (B0 U BS U (fun _ hx=>(by rw [Aj (hx.to hb6 (by simp))]; rfl)) ?_));refine Bc U U (An U Ey U (B0 U G5 U (fun _ hx=>(by rw [Aj (hx.to hb6 (by simp))]; rfl)) ?_));refine t_len U Br U (AS ?_);replace H:=H.drew;refine Al U Xq (Vm r.cmp _) U ?_;rintro v w ⟨rfl,rfl⟩;refine Ab (Cl (H.ext) (AH U U ?_));refine AS (D4 ([r.day,Mu r.cmp,r.N,(r.es.length:Int),(r.ids.length:Int)].map Dq) U AR Bx Eb (by decide) (by decide) (by kernel_rfl) (Ctx.start _ []) ?_);rintro b57 w2 - H17;refine Ab (Cl (H.ext.trans H17.ext) (AH U U ?_))
     refine DX U U (AS (Ae U U (Ab (Cl (H.ext.trans H17.ext) (BJ (A5 (A9 (Ao (BR (v1:=(.slice _ _ _)) (v2:=(.int _ _)) U U U U ?_)))))))));have H9:=H8.call H.ext;subst hS0;exact D9 (P:=[_,_]) (m':=⟨bl,ba,bd,br,b,a,c,full,o,arch⟩) (s':=s) (l:=[r.day,Mu r.cmp,r.N,(r.es.length:Int),(r.ids.length:Int)]) (code:=0) I H9 (Gc (n:=5) H17 U) (hstep _ (by rw [hR]; unfold K3; rw [if_neg h2',if_pos h3]; rfl)) I.O I.M I.ok U U U U
    ·intro h3;replace h3:=AN h3;refine Ad (Af U U (Af U U (C3 U U U (Ai U U (Ab (Aa (Aq _ U ?_ ?_)))))))
     ·intro h4;replace h4:=AM h4;obtain ⟨y,hy⟩:=AD (l:=r.pot) (i:=(k.b - (r.es.length:Int)).toNat) (by omega);refine Ad (Ah U D6 U (Ah U Gg U (Bd U BL U ((H.old (Aj hb6 _) (by simp))) ?_)));refine Af U U (Af U U (Bp U U U (by omega) (by omega) ?_));refine Bo (RA.P.ext0 H.ext) U AR Bx U U (by omega) (by omega) (by rfl) ?_;refine Bd U Bw U (((RA.P.ext0 H.ext).one (f:=Dq) hy)) ?_;have H17:=Ctx.start w [];refine Ci [.int .i64 y] (.int .i64 y) U AR Bx Eb U (by decide) (by decide) U U U H17 ?_;rintro b70 w2 - H17;refine A1 U U (Ae U U (Ab (Aa (A5 (A9 (Ao (BR (v1:=(.slice _ _ _)) (v2:=(.int _ _)) U U U U ?_)))))));have H9:=H8.call H.ext;subst hS0;exact D9 (P:=[_,_]) (m':=⟨bl,ba,bd,br,b,a,c,full,o,arch⟩) (s':=s) (l:=[y]) (code:=0) I H9 (Gc (n:=1) (l:=[Dq y]) H17 U) (hstep _ (by rw [hR]; unfold K3; rw [if_neg h2',if_neg h3,if_pos h4,Bm hy]; rfl)) I.O I.M I.ok U U U U
     ·intro h4;replace h4:=AN h4;obtain ⟨x,hxe⟩:=AD (l:=r.es) (i:=k.b.toNat) (by omega);obtain ⟨f,hf⟩:=AD (l:=r.fl) (i:=k.b.toNat) (by omega);refine Av (A6 (Aa (Ad (Ah U EF U (Ah U CN U (Bd U Ei U ((H.old (Aj hb6 _) (by simp))) ?_))))));refine Af U U (Bo (RA.E.ext0 H.ext) U CW CX U U (by omega) (by omega) (by rfl) ?_);refine Cn _ U Ib CX U U (((RA.E.ext0 H.ext).row hxe U)) ?_;refine AZ U GZ H ?_;rintro b10 w - H;refine Bn U CX U U U (by exact He _) H at0 U ?_;rintro w H;refine Ae U U (Ab (Aa (Aw ?_)));replace H:Ctx w1 [] w [(b10,Bl 59 (C4 x))]:=H;refine Ad (Af U U (Ah U Ey U (Bd U G5 U ((H.old (Aj hb6 _) (by simp))) ?_)));refine Bf U Br U (Bj U U U (Ab (Aa (Aq _ U ?_ ?_))))
      ·intro h5;replace h5:=AM h5;obtain ⟨y,hy⟩:=AD (l:=r.ids) (i:=k.b.toNat) (by omega);refine A0 (Ah U Ey U (Bd U G5 U ((H.old (Aj hb6 _) (by simp))) ?_));refine Af U U (Bo (RA.I.ext0 H.ext) U Br Bi U U (by omega) (by omega) (by rfl) ?_);refine Bd U B2 U (((RA.I.ext0 H.ext).one (f:=FS) hy)) ?_;refine WP U U EZ VD ?_;refine Ae U U (Ab (Aa (Cv [([0,1,2,3,4,5,6,7,8,9,10,11,12,13,14],15),([16],17)] (fun z=>Ext [] w1 z∧z.heap[b10]? = some (Bl 59 (C4 x))) [] Bq (by kernel_rfl) (⟨H.drew.ext,H.drew.get at0⟩) ?_)));refine AH U U ?_;refine An U FI U (B0 U BS U (fun _ hx=>(by rw [Aj hx.2]; rfl)) ?_);refine An U FJ U (B0 U BS U (fun _ hx=>(by rw [Aj hx.2]; rfl)) ?_);refine An U EG U (B0 U Bw U (fun _ hx=>(by rw [Aj hx.2]; rfl)) ?_);refine An U GG U (B0 U Bw U (fun _ hx=>(by rw [Aj hx.2]; rfl)) ?_);refine An U D6 U (An U Fm U (B0 U BL U (fun _ hx=>(by rw [Aj (hx.1.to hb6 (by simp))]; rfl)) ?_))
       refine Bc U U (DK (RA.F.ext0 H.ext) U AR Bx U U (by omega) (by omega) (by rfl) ?_);refine B0 U Bw U (fun _ hx=>((RA.F.ext0 hx.1).one (f:=Dq) hf)) ?_;refine Bc U U (AS ?_);replace H:=H.drew;refine D4 ([x.f,x.t,x.cap,x.cost,f,IntKind.i64.wrap y].map Dq) U AR Bx Eb (by decide) (by decide) (by kernel_rfl) (Ctx.start _ []) ?_;rintro b103 w2 - H17;refine Ab (Cl (⟨H.ext.trans H17.ext,H17.ext.to (H.get at0) (by simp)⟩) ?_);refine AH U U ?_;refine DX U U (AS (Ae U U (Ab (Cl (⟨H.ext.trans H17.ext,H17.ext.to (H.get at0) (by simp)⟩) ?_))));refine BJ (A5 (BR (v1:=(.slice _ _ _)) (v2:=(.int _ _)) U U U U ?_));have H9:=H8.call H.ext;subst hS0
       exact D9 (P:=[_,_]) (m':=⟨bl,ba,bd,br,b,a,c,full,o,arch⟩) (s':=s) (l:=[x.f,x.t,x.cap,x.cost,f,IntKind.i64.wrap y]) (code:=0) I H9 (Gc (n:=6) H17 U) (hstep _ (by rw [hR]; unfold K3; rw [if_neg h2',if_neg h3,if_neg h4,Bm hxe,Bm hf,if_pos h5,Bm hy]; rfl)) I.O I.M I.ok U U U U
      ·intro h5;replace h5:=AN h5;refine Av (Aa (Cv [([0,1,2,3,4,5,6,7,8,9,10,11,12,13,14],15),([16],17)] (fun z=>Ext [] w1 z∧z.heap[b10]? = some (Bl 59 (C4 x))) [] Bq (by kernel_rfl) (⟨H.drew.ext,H.drew.get at0⟩) ?_));refine AH U U ?_;refine An U FI U (B0 U BS U (fun _ hx=>(by rw [Aj hx.2]; rfl)) ?_);refine An U FJ U (B0 U BS U (fun _ hx=>(by rw [Aj hx.2]; rfl)) ?_);refine An U EG U (B0 U Bw U (fun _ hx=>(by rw [Aj hx.2]; rfl)) ?_);refine An U GG U (B0 U Bw U (fun _ hx=>(by rw [Aj hx.2]; rfl)) ?_);refine An U D6 U (An U Fm U (B0 U BL U (fun _ hx=>(by rw [Aj (hx.1.to hb6 (by simp))]; rfl)) ?_));refine Bc U U (DK (RA.F.ext0 H.ext) U AR Bx U U (by omega) (by omega) (by rfl) ?_);refine B0 U Bw U (fun _ hx=>((RA.F.ext0 hx.1).one (f:=Dq) hf)) ?_;refine Bc U U (AS ?_);replace H:=H.drew
       refine D4 ([x.f,x.t,x.cap,x.cost,f,0].map Dq) U AR Bx Eb (by decide) (by decide) (by kernel_rfl) (Ctx.start _ []) ?_;rintro b103 w2 - H17;refine Ab (Cl (⟨H.ext.trans H17.ext,H17.ext.to (H.get at0) (by simp)⟩) ?_);refine AH U U ?_;refine DX U U (AS (Ae U U (Ab (Cl (⟨H.ext.trans H17.ext,H17.ext.to (H.get at0) (by simp)⟩) ?_))));refine BJ (A5 (BR (v1:=(.slice _ _ _)) (v2:=(.int _ _)) U U U U ?_));have H9:=H8.call H.ext;subst hS0;exact D9 (P:=[_,_]) (m':=⟨bl,ba,bd,br,b,a,c,full,o,arch⟩) (s':=s) (l:=[x.f,x.t,x.cap,x.cost,f,0]) (code:=0) I H9 (Gc (n:=6) H17 U) (hstep _ (by rw [hR]; unfold K3; rw [if_neg h2',if_neg h3,if_neg h4,Bm hxe,Bm hf,if_neg h5]; rfl)) I.O I.M I.ok U U U U
theorem WI {m:Lm} {s:Ld} {T:Nat→Prop} {k:Ak} (hk:k.kd=15) (hin:AkIn k) (w:World) (I:LdIn w m s T) (H0:Ctx w (Di m s) w (LL m s)) :
  Ret Tryz.prog 67 #[ptr m.bl,.agg (Cd k).toArray] w (FP w m s T k):=by
 cases hg:Sq s k.id with
 | none=>exact Ud hk hin hg w I H0
 | some r=>exact Ue hk hin hg w I H0
end Go.Proofs.YtdagmpmdcgedcaaGreat

/- What a payment is worth: build.Worth. -/
namespace Go.Proofs.YtdagmpmdcgedcaaGreat
open Go.GV
attribute [local irreducible] AB W Wq Wt

set_option maxRecDepth 20000 in
set_option maxHeartbeats 4000000 in
theorem Z7 (b p:Option Addr) (m e u f:Nat) (ds:List Du) (xs:List Int) (w:World) (Rd':Rd w b 7 CO ds) (hm:ds.length=m) (hm2:m≤1000000) (Rp:Rd w p 1 I1 xs) (hu:xs.length=u) (hp:PayIn (opn ds) xs) (hmay:∀ d∈opn ds,DT d=true) (htot:Cm ((opn ds).map Du.am)≤4503599627370496) :
  Ret Tryz.prog 116 #[.slice b m e,.slice p u f] w fun v w'=>v = .int .i64 (EQ (opn ds) xs (opn ds).length)∧Ext [] w w':=by
 subst hm hu;obtain ⟨w0,rfl⟩:∃ w0,w0=w:=⟨_,rfl⟩;have H:=Ctx.start w0 [];have hol:=HI ds;refine Au (fn:=Tryz.f116) Tryz.func116 U [.slice b ds.length e,.slice p xs.length f] U (by kernel_rfl) ?_;refine Ad (Ae U U (Ab (Aa (Ad (A4 U U (Al U Xv (UT b ds.length e ds _ Rd' U hm2) U ?_))))));rintro v w F;obtain ⟨ao,no,co,fo,rfl,OO,hbo⟩:=F.ex;replace H:=H.call F.ext;refine A1 U U (Ab (Aa (Aw ?_)));obtain rfl:no=(opn ds).length:=OO.numN (fun _ _=>rfl) (by decide);have RO0:Rd w ao 7 CO (opn ds):=OS.rd OO (fun y hy=>(hbo y hy).1) (fun _ _=>rfl) (by decide);have hE1:=H.ext;obtain ⟨w1,rfl⟩:∃ x,x=w:=⟨_,rfl⟩;clear H;have H:=Ctx.start w1 [];have hlen:=hp.1;have hRf:∀ {w:World},Ext [] w1 w→Rd w ao 7 CO (opn ds):=fun h=>RO0.ext0 h;have hRp:∀ {w:World},Ext [] w1 w→Rd w p 1 I1 xs:=fun h=>Rp.ext0 (hE1.trans h);refine Ad (A4 U U (Bf U Dh U (A4 U U (Bf U AR U (CI U U U (Ab (Aa (Aq _ U ?_ ?_))))))))
 ·intro h1;replace h1:=CE h1;omega
 ·intro h1;replace h1:=CF h1;refine Av (Aa (Ad (Ae U U (Ab (Aa (Aw (Ad (A4 U U (Bf U Dh U (Af U U (Ab (Aa ?_))))))))))));refine Az (Bv 4294836448 (α:=Nat) (fun i=>[(17,.int .i64 (i:Int)),(5,.int .i64 (EQ (opn ds) xs i))]) (fun i w'=>i≤(opn ds).length∧Ctx w1 [] w' []) (fun i=>(opn ds).length - i) 0 U ?_ ?_ ?_)
  ·exact ⟨rfl,rfl,trivial⟩
  ·exact ⟨Nat.zero_le _,H⟩
  ·clear H;rintro i j w ⟨hi,H⟩;refine Ad (Bj U U U (Ab (Aa (Aw (Aq _ U ?_ ?_)))))
   ·intro h3;replace h3:=AM h3;obtain ⟨d,hd⟩:=AD (l:=opn ds) (i:=i) (by omega);obtain ⟨x,hxv⟩:=AD (l:=xs) (i:=i) (by omega);have hma:=D7 (hmay d (List.mem_of_getElem? hd));have hxr:=hp.2 i d x hd hxv;have hwe:∀ d∈opn ds,0≤d.we∧d.we≤1000:=fun d hd=>by have:=D7 (hmay d hd); omega
    have hps:∀ k,Cm (((opn ds).map Du.am).take k)≤4503599627370496:=fun k=>Int.le_trans (W0 (fun y hy=>by obtain ⟨d',hd',rfl⟩:=List.mem_map.1 hy; have:=D7 (hmay d' hd'); omega) k) htot;have hw0:=Kw hp hwe i hi;have hw1:=Kw hp hwe (i+1) (by omega);have hp0:=hps i;have hp1:=hps (i+1);have hstep:=Mr hd hxv;have hm1:0≤d.we*x:=Int.mul_nonneg (by omega) hxr.1;have hm2:d.we*x≤4503599627370496000:=by omega
    refine Av (Aa (Aw (Az (Ad (Af U U (Bo (hRf H.ext) U Dh Cj U U (by omega) (by omega) (by rfl) ?_))))));refine Cn _ U EW Cj U U ((hRf H.ext).row hd U) ?_;refine AZ U Et H ?_;rintro b7 w - H;refine Ae U U (Bn U Cj U U U (by exact CY _) H at0 U ?_);rintro w H;refine Ab (Aa ?_);replace H:Ctx w1 [] w [(b7,Bl 67 (CO d))]:=H;refine Fa [([0,1,2,3,4,5,6,7,8],9)] (fun z=>Ext [] w1 z∧z.heap[b7]? = some (Bl 67 (CO d))) [] Bq (by kernel_rfl) (⟨H.drew.ext,H.drew.get at0⟩) ?_;refine AH U U ?_;refine Bc U U (An U KU U (B0 U Bw U (fun _ hx=>(by rw [Aj hx.2]; rfl)) ?_));refine B1 U U (Bc U U (DK (hRp H.ext) U AR Bx U U (by omega) (by omega) (by rfl) ?_));refine B0 U Bw U (fun _ hx=>((hRp hx.1).one (f:=Dq) hxv)) ?_;refine Vx U U U (by omega) (by omega) ?_;refine DW U U U (by omega) (by omega) ?_;refine AS ?_;replace H:=H.drew
    refine Ae U U (Ab (Cl (⟨H.ext,H.get at0⟩) (BJ (A6 (Aa (A0 (Ay U U U (by omega) (by omega) ?_)))))));refine Af U U (Ab (Aa ?_));exact ⟨i+1,rfl,⟨rfl,congrArg (Value.int .i64) hstep.symm,trivial⟩,⟨by omega,H.tail⟩,by omega⟩
   ·intro h3;replace h3:=AN h3;obtain rfl:i=(opn ds).length:=by omega
    refine Bt (Am (Am (AK (Aa (Ad (Af U U (Ae U U (Ab (Aa (A5 (AA (v:=(.int _ _)) U U U ?_)))))))))));exact ⟨rfl,hE1.trans H.ext⟩
end Go.Proofs.YtdagmpmdcgedcaaGreat
