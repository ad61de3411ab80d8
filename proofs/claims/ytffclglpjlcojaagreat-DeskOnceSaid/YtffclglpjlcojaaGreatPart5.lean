/- Part 5 of the proof. -/
import Derived.Test.YtffclglpjlcojaaGreatPart4
set_option maxRecDepth 20000
set_option maxHeartbeats 8000000
namespace Go.Proofs.YtffclglpjlcojaaGreat
open Go.GV Go.Proofs.Tryz
def Kw(g:Gr)(cap' x p:Nat->Int)(i:Nat):Int:=if 2*x i<cap' i/\g.co i+p (g.f i) - p (g.t i)<0 then cap' i else 2*x i
theorem Q6{g:Gr}{cap cap' x p:Nat->Int}(h:Fine g cap x p)(hc:∀i,i<g.E->2*cap i<=cap' i/\cap' i<=2*cap i+1):Fine g cap' (Kw g cap' x p) p:=by
 refine Fine.of (fun i hi=>?_) (fun i hi hx=>?_) (fun i hi hx=>?_)
 .obtain⟨h1,h2⟩:=h.in' i hi;obtain⟨h3,h4⟩:=hc i hi;unfold Kw;split <;> omega
 .unfold Kw at hx
  split at hx
  .omega
  .rename_i h5
   rcases Vv (g.co i+p (g.f i) - p (g.t i)) 0 with h6|h6
   .exact absurd ⟨hx,h6⟩ h5
   .exact h6
 .unfold Kw at hx
  split at hx
  .rename_i h5;omega
  .exact h.bwd hi (by omega)
def Jk(g:Gr)(cap' x p:Nat->Int)(k i:Nat):Int:=if i<k then Kw g cap' x p i else 2*x i
theorem Aey{g:Gr}{cap' x p:Nat->Int}{v:Nat}(h:BK g x v=0):BK g (Jk g cap' x p 0) v=0:=by
 have h1:BK g (Jk g cap' x p 0) v=BJ (fun i=>2*((one (g.t i=v) - one (g.f i=v))*x i)) g.E:=C4 fun i _=>by
  unfold Jk;rw[if_neg (by omega),Int.mul_left_comm]
 rw[h1,TX];show 2*BK g x v=0;omega
theorem Aez{g:Gr}{cap' x p:Nat->Int}{k:Nat}(v:Nat)(hk:k<g.E:=by omega):BK g (Jk g cap' x p (k+1)) v=BK g (Jk g cap' x p k) v+(Kw g cap' x p k - 2*x k)*(one (g.t k=v) - one (g.f k=v)):=by
 obtain⟨b,c,-⟩:=KZ g k;have h:=Sy g (Kw g cap' x p k - 2*x k) (Jk g cap' x p k) (a:=2*k) (by omega) v;rw[b,c]at h;rw[<-h]
 congr 1
 funext i
 have m1:∀{k:Nat},i<k->Jk g cap' x p k i=Kw g cap' x p i:=fun h=>if_pos h;have m2:∀{k:Nat},¬i<k->Jk g cap' x p k i=2*x i:=fun h=>if_neg h;unfold Jx;rw[show 2*k / 2=k by omega,if_pos (show 2*k % 2=0 by omega)]
 by_cases e:i=k
 .subst e;rw[if_pos rfl,m1 (by omega),m2 (by omega)];omega
 .rw[if_neg e]
  by_cases e2:i<k
  .rw[m1 (by omega),m1 e2]
  .rw[m2 (by omega),m2 e2]
theorem Ajc{g:Gr}{cap' x p:Nat->Int}{i:Nat}(hi:i<g.E):Jk g cap' x p g.E i=Kw g cap' x p i:=if_pos hi
theorem Mr{g:Gr}{x y:Nat->Int}(h:∀i,i<g.E->x i=y i)(v:Nat):BK g x v=BK g y v:=C4 fun i hi=>by rw[h i hi]
theorem Le{g:Gr}{x:Nat->Int}{c:Int}(v:Nat):∀{k:Nat},(∀i,i<k->0<=x i/\x i<=c) -> -(k*c)<=E0 g x k v/\E0 g x k v<=k*c
 |0,_=>by show -(((0:Nat):Int)*c)<=0/\(0:Int)<=((0:Nat):Int)*c;omega
 |k+1,h=>by
  obtain⟨h1,h2⟩:=Le (g:=g) v (k:=k) fun i hi=>h i (by omega);obtain⟨h3,h4⟩:=h k (by omega);have e:((k+1:Nat):Int)*c=k*c+c:=by rw[qdq,Int.add_mul];simp
  show _<=E0 g x k v+(one (g.t k=v) - one (g.f k=v))*x k/\E0 g x k v+(one (g.t k=v) - one (g.f k=v))*x k<=_;rw[e];unfold one
  split <;> split <;> omega
theorem Vx{g:Gr}{cap x p:Nat->Int}(h:Fine g cap x p):Fea (((List.range (2*g.E)).filter fun a=>decide (0<CI cap x a)).map fun a=>(g.u a,g.v a,g.c a)) p:=fun b hb=>by
 rw[qah]at hb;obtain⟨a,ha,rfl⟩:=hb;rw[qbe,qa5,qar]at ha;have:=h.fit a ha.1 ha.2;unfold Gr.len at this;dsimp only;omega
theorem Ae0{g:Gr}{cap x p q:Nat->Int}(h:Fine g cap x p)(hq:Fea (((List.range (2*g.E)).filter fun a=>decide (0<CI cap x a)).map fun a=>(g.u a,g.v a,g.c a)) q):Fine g cap x q:=by
 refine⟨h.in',fun a ha hr=>?_⟩;have:=hq (g.u a,g.v a,g.c a) (qah.2 ⟨a,qbe.2 ⟨qa5.2 ha,qan hr⟩,rfl⟩);unfold Gr.len;dsimp only at this;omega
attribute [local irreducible] A7 W Wq Wt
structure Ed where
 f:Int
 t:Int
 cap:Int
 cost:Int
def CO(e:Ed):List Value:=[.int .i64 e.f,.int .i64 e.t,.int .i64 e.cap,.int .i64 e.cost]
theorem I4(e:Ed):∀v∈CO e,AY v=true:=fun v hv=>by
 simp only[CO,qai,qau,or_false]at hv
 rcases hv with rfl|rfl|rfl|rfl <;> rfl
def I64(x:Int):Prop := -9223372036854775808<=x/\x<=9223372036854775807
structure Ed.In(e:Ed):Prop where
 f:I64 e.f
 t:I64 e.t
 cap:I64 e.cap
 cost:I64 e.cost
def Nc(N i:Int):Bool:=decide (0<=i) && decide (i<N)
def Gx(N:Int)(e:Ed):Bool:=Nc N e.f && (Nc N e.t && (decide (0<=e.cap) && (decide (e.cap<=4503599627370496) && (decide (-1000<=e.cost) && decide (e.cost<=1000)))))
def HS(e:Ed):Nat:=e.cap.toNat*e.cost.natAbs
def Gy(es:List Ed):Nat:=(es.map HS).sum
def CA(N:Int)(es:List Ed):Bool:=(decide (1<=N) && decide (N<=40)) && (decide (es.length<=200) && (es.all (Gx N) && decide (Gy es<=4611686018427387904)))
def Eo(N:Int)(a:Option Addr)(n c:Nat):Value := .agg #[.int .i64 N,.slice a n c]
theorem YK(N:Int)(a:Option Addr)(n c:Nat)(i:Int)(w:World):Ret prog 191 #[Eo N a n c,.int .i64 i] w fun v w'=>v=.bool (Nc N i)/\Ext [] w w':=by
 obtain⟨w0,rfl,H⟩:=qE w;refine Au (fn:=f191) func191 U [Eo N a n c,.int .i64 i] U (Ae (Bu [.int .i64 N,.slice a n c] (.agg _) U U H ?_));rintro b2 w - H;refine Ai U (qA (Ae (Af U (CM U U (A2 U (AR 7 U ?_ ?_))))))
 .intro h1;replace h1:=AM h1;refine Af U (Ah Ev U (AG Cc U H at0 U (Bm U U (AA U (.bool _) U (Ai U (qA (A5 (AB (v:=(.bool _)) U U U ?_))))))));exact⟨qaa Value.bool (by unfold Nc;rw[qad];simp_all;try omega),H.ext⟩
 .intro h2;replace h2:=AN h2;refine Ag U (Ag U (Ag U (Ag U (AJ U (.bool _) U (Ai U (qA (A5 (AB (v:=(.bool _)) U U U ?_))))))));exact⟨qaa Value.bool (by unfold Nc;rw[qad];simp_all;try omega),H.ext⟩
theorem Ap9(x:Int)(w:World)(h1: -9223372036854775808<x:=by omega)(h2:x<=9223372036854775807:=by omega):Ret prog 168 #[.int .i64 x] w fun v w'=>v=.int .u64 (x.natAbs:Int)/\w=w':=by
 obtain⟨w0,rfl⟩:=qD w;refine Au (fn:=f168) func168 U [.int .i64 x] U (Ae (Ad U (qA (Ae (Af U (Af U (Me U U ?_)))))));refine MF U U U ?_;rw[show max x (-x)=(x.natAbs:Int)by omega];refine D5 U LJ Dc (Ad U (qA (A5 (AB (v:=(.int _ _)) U U U ?_))));exact⟨rfl,rfl⟩
theorem Ajd(N:Int)(a:Option Addr)(n c:Nat)(e:Ed)(w:World):Ret prog 166 #[Eo N a n c,.agg (CO e).toArray] w fun v w'=>v=.bool (Gx N e)/\Ext [] w w':=by
 obtain⟨w0,rfl,H⟩:=qE w;refine Au (fn:=f166) func166 U [Eo N a n c,.agg (CO e).toArray] U (Ae (Bu [.int .i64 N,.slice a n c] (.agg _) U U H ?_));rintro b2 w - H;refine Bu (CO e) (.agg _) U U H ?_;rintro b3 w - H;refine Ai U (qA (Ax (A1 (Ax (Ae (Cg CE Ct U H at1 U (Ah F5 U (AG Cc U H at0 U (Al qB (YK N a n c e.f _) U ?_)))))))));rintro v w ⟨rfl,hx9⟩;replace H:=H.call hx9;refine BP U (Ai U (qA (Dj 5 U ?_ ?_)))
 .intro h1;replace h1:=BM h1;refine Ay (Aa (DB U (Ae (Ai U (qA (A5 (AF (Av (AB (v:=(.bool _)) U U U ?_)))))))));exact⟨qaa Value.bool (by unfold Gx;simp_all;try omega),H.ext⟩
 .intro h2;replace h2:=BN h2;refine Ae (Cg CE Ct U H at1 U (Ah F6 U (AG Cc U H at0 U (Al qB (YK N a n c e.t _) U ?_))));rintro v w ⟨rfl,hx14⟩;replace H:=H.call hx14;refine BP U (Ai U (qA (Dj 5 U ?_ ?_)))
  .intro h3;replace h3:=BM h3;refine Ay (Aa (DB U (Ae (Ai U (qA (A5 (AF (Av (AB (v:=(.bool _)) U U U ?_)))))))));exact⟨qaa Value.bool (by unfold Gx;simp_all;try omega),H.ext⟩
  .intro h4;replace h4:=BN h4;refine Ae (Ah EE U (AG B4 U H at0 U (Bm U U (Ai U (qA (Dj 5 U ?_ ?_))))))
   .intro h5;replace h5:=AM h5;refine Ay (Aa (DB U (Ae (Ai U (qA (A5 (AF (Av (AB (v:=(.bool _)) U U U ?_)))))))));exact⟨qaa Value.bool (by unfold Gx;simp_all;try omega),H.ext⟩
   .intro h6;replace h6:=AN h6;refine Ae (Ah EE U (AG B4 U H at0 U (C8 U U (Ai U (qA (Dj 5 U ?_ ?_))))))
    .intro h7;replace h7:=AM h7;refine Ay (Aa (DB U (Ae (Ai U (qA (A5 (AF (Av (AB (v:=(.bool _)) U U U ?_)))))))));exact⟨qaa Value.bool (by unfold Gx;simp_all;try omega),H.ext⟩
    .intro h8;replace h8:=AN h8;refine Ae (Ah GD U (AG B4 U H at0 U (Bm U U (Ai U (qA (Dj 5 U ?_ ?_))))))
     .intro h9;replace h9:=AM h9;refine Ay (Aa (DB U (Ae (Ai U (qA (A5 (AF (Av (AB (v:=(.bool _)) U U U ?_)))))))));exact⟨qaa Value.bool (by unfold Gx;simp_all;try omega),H.ext⟩
     .intro h10;replace h10:=AN h10;refine A0 (Ah GD U (AG B4 U H at0 U (C8 U U (Ai U (qA (Dj 5 U ?_ ?_))))))
      .intro h11;replace h11:=AM h11;refine Ae (Ai U (qA (A5 (AF (Av (AB (v:=(.bool _)) U U U ?_))))));exact⟨qaa Value.bool (by unfold Gx;simp_all;try omega),H.ext⟩
      .intro h12;replace h12:=AN h12;refine Ay (A8 (Aa (Ae (Ai U (qA (A5 (AB (v:=(.bool _)) U U U ?_)))))));exact⟨qaa Value.bool (by unfold Gx;simp_all;try omega),H.ext⟩
theorem Ae1(x y:Nat)(w:World)(hx:x<=4503599627370496:=by omega)(hy:y<=1000:=by omega):Ret prog 167 #[.int .u64 (x:Int),.int .u64 (y:Int)] w fun v w'=>v=.tuple #[.int .u64 0,.int .u64 ((x*y:Nat):Int)]/\w=w':=by
 obtain⟨w0,rfl⟩:=qD w;have hm:∀z:Nat,z &&& 4294967295=z % 4294967296:=fun z=>Nat.and_two_pow_sub_one_eq_mod z 32;obtain⟨x0,hx0⟩:=qD (x % 4294967296);obtain⟨x1,hx1⟩:=qD (x / 4294967296);have hp0:x0*y<=4294967296*1000:=qec (by omega) hy;have hp1:x1*y<=1048576*1000:=qec (by omega) hy;have hxy:x*y<=4503599627370496*1000:=qec hx hy;refine Au (fn:=f167) func167 U [.int .u64 (x:Int),.int .u64 (y:Int)] U (Ae (Ad U (Ad U (qA (Ae (Af U (Iq (b:=4294967295) U U U ?_)))))));rw[hm,<-hx0];refine Ad U (qA (Ae (Af U (EJ (n:=32) U U ?_))));rw[show x / 2 ^ 32=x1 from hx1.symm];refine Ad U (qA (Ae (Af U (Iq (b:=4294967295) U U U ?_))));rw[hm,show y % 4294967296=y by omega]
 refine Ad U (qA (Ae (Af U (EJ (n:=32) U U ?_))));rw[show y / 2 ^ 32=0 by omega];refine Ad U (qA (Ae (Af U (Af U (GP U U U (qds (by omega) (by omega)) (by rw[<-qdt];omega) ?_)))));rw[<-qdt];refine Ad U (qA (Ae (Af U (Af U (GP U U U (qds (by omega) (by omega)) (by rw[<-qdt];omega) ?_)))));rw[<-qdt];refine Af U (EJ (n:=32) U U ?_);refine EI U U ?_;rw[<-qdq];refine Ad U (qA (Ae (Af U (Iq (b:=4294967295) U U U ?_))));rw[hm];refine Ad U (qA (Ae (Af U (EJ (n:=32) U U ?_))));rw[show(x1*y+x0*y / 2 ^ 32) / 2 ^ 32=0 by omega]
 refine Ad U (qA (Ae (Af U (Af U (Af U (GP U U U (by show(0:Int)<=(x0:Int)*((0:Nat):Int);omega) (by show(x0:Int)*((0:Nat):Int)<=_;omega) ?_))))));rw[show(x0:Int)*((0:Nat):Int)=0 by omega];refine EI U U ?_;rw[show((((x1*y+x0*y / 2 ^ 32) % 4294967296:Nat):Int)+0)=(((x1*y+x0*y / 2 ^ 32) % 4294967296:Nat):Int)by omega];refine Ad U (qA (Ae (Af U (Af U (GP U U U (by show(0:Int)<=(x1:Int)*((0:Nat):Int);omega) (by show(x1:Int)*((0:Nat):Int)<=_;omega) ?_)))));rw[show(x1:Int)*((0:Nat):Int)=0 by omega];refine Af U (EI U U ?_);refine Af U (EJ (n:=32) U U ?_);rw[show(x1*y+x0*y / 2 ^ 32) % 4294967296 / 2 ^ 32=0 by omega];refine EI U U (Ad U (qA (Ae (Af U (Af U (GP U U U (qds (by omega) (by omega)) (by rw[<-qdt];omega) ?_))))))
 rw[<-qdt];refine Ad U (qA (A5 (Cf (v1:=(.int _ _)) (v2:=(.int _ _)) U U U U ?_)));exact⟨rfl,rfl⟩
theorem X0{es:List Ed}{i:Nat}{e:Ed}(h:es[i]?=some e):Gy (es.take (i+1))=Gy (es.take i)+HS e:=by
 unfold Gy;rw[Ee h,qav,List.sum_append];simp
theorem X1(es:List Ed)(i:Nat):Gy (es.take i)<=Gy es:=by
 unfold Gy;have h:(es.map HS).sum=((es.take i).map HS).sum+((es.drop i).map HS).sum:=by rw[<-List.sum_append,<-qav,qbq]
 omega
theorem Fb{N:Int}{e:Ed}(h:Gx N e=true):0<=e.f/\e.f<N/\0<=e.t/\e.t<N/\0<=e.cap/\e.cap<=4503599627370496 /\ -1000<=e.cost/\e.cost<=1000:=by
 unfold Gx Nc at h;simp only[qae,qar]at h;omega
theorem ET{α:Type}{p:α->Bool}{l:List α}{i:Nat}{x:α}(h:l[i]?=some x)(hp:p x=false):l.all p=false:=by
 rw[List.all_eq_false];exact⟨x,qac h,by rw[hp];simp⟩
theorem Gc{α:Type}{p:α->Bool}{l:List α}(h:∀k x,k<l.length->l[k]?=some x->p x=true):l.all p=true:=by
 rw[qaw];intro x hx;obtain⟨k,hk⟩:=qdd hx;exact h k x (qa8.1 hk).1 hk
theorem Nd(N:Int)(a:Option Addr)(n c:Nat)(es:List Ed)(w:World)(R:Rd w a 4 CO es)(hn:es.length=n)(_:I64 N):Ret prog 142 #[Eo N a n c] w fun v w'=>v=.bool (CA N es)/\Ext [] w w':=by
 subst hn;obtain⟨w0,rfl,H⟩:=qE w;refine Au (fn:=f142) func142 U [Eo N a es.length c] U (Ae (Bu [.int .i64 N,.slice a es.length c] (.agg _) U U H ?_));rintro b1 w - H;refine Ai U (qA (Ax (Ae (Ci (α:=Unit) 4194048 (fun _=>[(21,.bool (!((decide (1<=N) && decide (N<=40)) && decide (es.length<=200))))]) (fun _ w'=>Ctx w0 [] w' [(b1,Bl 123 [.int .i64 N,.slice a es.length c])]) U ?_ ?_))))
 .refine Ah Ev U (AG Cc U H at0 U (Bm U U (A2 U (AR 11 U ?_ ?_))))
  .intro h1;replace h1:=AM h1;refine Ag U (Ag U (Ag U (AA U (.bool _) U (A2 U (Ag U (Ag U (Ag U (Ag U (AA U (.bool _) U ?_)))))))));refine Ab ?_;exact⟨rfl,(),rfl,⟨qaa Value.bool (by rw[qad];simp_all;try omega),trivial⟩,H⟩
  .intro h2;replace h2:=AN h2;refine Ah Ev U (AG Cc U H at0 U (C8 U U (AJ U (.bool _) U (A2 U (AR 16 U ?_ ?_)))))
   .intro h3;replace h3:=AM h3;refine Ag U (Ag U (Ag U (Ag U (AA U (.bool _) U (Ab ?_)))));exact⟨rfl,(),rfl,⟨qaa Value.bool (by rw[qad];simp_all;try omega),trivial⟩,H⟩
   .intro h4;replace h4:=AN h4;refine Ah CL U (AG DM U H at0 U (Be CF U (C8 U U (AJ U (.bool _) U (Ab ?_)))));exact⟨rfl,(),rfl,⟨qaa Value.bool (by rw[qad];simp_all;try omega),trivial⟩,H⟩
 rintro - j21 w H;refine Aw _ U ?_ ?_
 .intro h1;replace h1:=BM h1;refine Ae (Ai U (qA (A5 (Av (AB (v:=(.bool _)) U U U ?_)))));exact⟨qaa Value.bool (by unfold CA;rw[<-qd3,show((decide (1<=N) && decide (N<=40)) && decide (es.length<=200))=false by simpa using h1];rfl),H.ext⟩
 .intro h1;replace h1:=BN h1;have h1':((decide (1<=N) && decide (N<=40)) && decide (es.length<=200))=true:=by simpa using h1
  have hrN:CA N es=(es.all (Gx N) && decide (Gy es<=4611686018427387904)):=by unfold CA;rw[<-qd3,h1'];rfl
  have hn2:es.length<=200:=by simp only[qae,qar]at h1';omega
  refine Ay (Aa (Ae (Ad U (qA (Ax (Ae (Ah CL U (AG DM U H at0 U (Be CF U (Af U ?_))))))))));refine qA (A1 (Bw 18014398475927788 (α:=Nat) (fun i=>[(25,.int .i64 (i:Int)),(3,.int .u64 ((4611686018427387904 - Gy (es.take i):Nat):Int))]) (fun i w'=>i<=es.length/\Ctx w0 [] w' [(b1,Bl 123 [.int .i64 N,.slice a es.length c])]/\Gy (es.take i)<=4611686018427387904/\∀(k:Nat) (e:Ed),k<i->es[k]?=some e->Gx N e=true) (fun i=>es.length - i) 0 U ?_ ?_ ?_))
  .exact⟨rfl,rfl,trivial⟩
  .exact⟨qaq _,H,qaq _,fun k e h=>absurd h (qbd _)⟩
  .rintro i j w ⟨hi,H,hpr,hb⟩;refine Ae (Bm U U (qA (Ax (Aw _ U ?_ ?_))))
   .intro h2;replace h2:=AM h2;obtain⟨e,he⟩:=AE (l:=es) (i:=i);have hps:=X0 he;have hpt:=X1 es (i+1);refine Ay (Aa (Ax (A1 (Ae (Bg R CF CG U U (by rfl) ?_)))));refine C9 _ GU CG U U ((R.ext0 H.ext).row he U) (Bc Gp H ?_);rintro b5 w - H;refine Bn CG U U U (by exact I4 _) H at0 U ?_;rintro w H;refine qA (Ax (Ae (Cg CE Ct U H at1 U (Cg GU CG U H at0 U (Al qB (Ajd N a es.length c e _) U ?_)))));rintro v w ⟨rfl,hx31⟩;replace H:=H.call hx31;refine BP U (qA (Aw _ U ?_ ?_))
    .intro h3;replace h3:=BM h3;refine Ae (Ai U (qA (A5 (Av (AF (Av (Av (AF (Av (AB (v:=(.bool _)) U U U ?_))))))))));exact⟨qaa Value.bool (by rw[hrN,ET he (by simpa using h3)];rfl),H.ext⟩
    .intro h3;replace h3:=BN h3;have h3':Gx N e=true:=by simpa using h3
     obtain⟨-,-,-,-,q1,q2,q3,q4⟩:=Fb h3';obtain⟨cp,hcp⟩:∃cp:Nat,e.cap=(cp:Int):=⟨e.cap.toNat,by omega⟩;have hpe:HS e=cp*e.cost.natAbs:=by unfold HS;rw[hcp,qbg]
     have hpm:cp*e.cost.natAbs<=4503599627370496*1000:=qec (by omega) (by omega);obtain⟨w5,rfl⟩:=qD w;have hb5:=H.get at0;have hk5:∀{z:World},Ext [] w5 z->z.heap[b5]?=some (Bl 158 (CO e)):=fun{z} h=>by rw[h.block b5 (Bd hb5) (by simp)];exact hb5
     have hD:=Ext.drew [] w5;refine Ay (Aa (Ck [([0,1,2,3,4],5),([],6),([7,8,9,10],11)] (fun z=>Ext [] w5 z) [] Br (hD) ?_));refine AD U U ?_;refine Ao EE U (B0 B4 U (fun _ hx=>(by rw[Aj (hk5 hx)];rfl)) ?_);rw[hcp];refine WT U U LJ Dc ?_;refine Ao GD U (B0 B4 U (fun _ hx=>(by rw[Aj (hk5 hx)];rfl)) ?_);refine AU ?_;replace H:=H.drew;refine Al qB (Ap9 e.cost _) U ?_;rintro v w ⟨rfl,rfl⟩;refine Ab (BH (hD) (AD U U ?_));refine AU (Al qB (Ae1 cp e.cost.natAbs _) U ?_);rintro v w ⟨rfl,rfl⟩;refine Ab (BH (hD) (AD U U ?_));refine DH U (Bs U U (Bs U U (Fs U (AU (Ad U (Ab (BH (hD) (BF (Ax (Ae ?_))))))))));refine Af U (CK U U (A2 U (Af U (Af U (C8 U U (AJ U (.bool _) U (qA (Aw _ U ?_ ?_))))))))
     .intro h4;replace h4:=AM h4;refine Ae (Ai U (qA (A5 (Av (AF (Av (Av (AF (Av (AB (v:=(.bool _)) U U U ?_))))))))));exact⟨qaa Value.bool (by rw[hrN,qa2 (show ¬Gy es<=4611686018427387904 by omega),qc4]),H.ext⟩
     .intro h4;replace h4:=AN h4;refine Ay (Aa (A0 (Af U (Af U (PT U U U ?_)))));refine Ad U (Ab (A8 (Aa (A0 (Az U U ?_)))));refine Af U (qA ?_);refine⟨i+1,rfl,⟨rfl,qaa (Value.int .u64) (by rw[hps,hpe];omega),trivial⟩,⟨by omega,H.tail,by rw[hps,hpe];omega,fun k y hk hy=>?_⟩,by omega⟩
      rcases qap k i with h7|h7
      .exact hb k y h7 hy
      .obtain rfl:k=i:=by omega
       rw[he]at hy;cases hy;exact h3'
   .intro h2;replace h2:=AN h2;refine Bt (An (An (AK (Aa (Ae (Ai U (qA (A5 (AB (v:=(.bool _)) U U U ?_)))))))));rw[qc2 (by omega)]at hpr;exact⟨qaa Value.bool (by rw[hrN,Gc fun k x hk hx=>hb k x (by omega) hx,qan hpr];rfl),H.ext⟩
def Eb(x:Int):Value := .int .i64 x
abbrev I1(x:Int):List Value:=[.int .i64 x]
def inB(e:Ed)(x:Int):Bool:=decide (0<=x) && decide (x<=e.cap)
def Cu(N:Int)(es:List Ed)(fl:List Int):Bool:=(decide (fl.length=es.length) && CA N es) && (List.zipWith inB es fl).all id
theorem Q7{es:List Ed}{fl:List Int}{i:Nat}{e:Ed}{x:Int}(he:es[i]?=some e)(hx:fl[i]?=some x):(List.zipWith inB es fl)[i]?=some (inB e x):=by
 rw[qed,he,hx]
theorem LC(N:Int)(a b:Option Addr)(n c m d:Nat)(es:List Ed)(fl:List Int)(w:World)(R:Rd w a 4 CO es)(hn:es.length=n)(hN:I64 N)(Rf:Rd w b 1 I1 fl)(hm:fl.length=m)(hm2:m<=9223372036854775000) :
  Ret prog 176 #[Eo N a n c,.slice b m d] w fun v w'=>v=.bool (Cu N es fl)/\Ext [] w w':=by
 subst hn hm;obtain⟨w0,rfl,H⟩:=qE w;refine Au (fn:=f176) func176 U [Eo N a es.length c,.slice b fl.length d] U (Ae (Bu [.int .i64 N,.slice a es.length c] (.agg _) U U H ?_));rintro b2 w - H;refine Ai U (qA (Ax (Ae (Ci (α:=Unit) 262016 (fun _=>[(17,.bool (!(decide (fl.length=es.length) && CA N es)))]) (fun _ w'=>Ctx w0 [] w' [(b2,Bl 123 [.int .i64 N,.slice a es.length c])]) U ?_ ?_))))
 .refine Ap U (Be Bf U (Ah CL U (AG DM U H at0 U (Be CF U (CK U U (A2 U (AR 13 U ?_ ?_)))))))
  .intro h1;replace h1:=CY h1;refine Ag U (Ag U (Ag U (AA U (.bool _) U (Ab ?_))));exact⟨rfl,(),rfl,⟨qaa Value.bool (by rw[qad];simp_all;try omega),trivial⟩,H⟩
  .intro h2;replace h2:=CZ h2;refine Cg CE Ct U H at0 U (Al qB (Nd N a es.length c es _ (R.ext0 H.ext) U hN) U ?_);rintro v w ⟨rfl,hx15⟩;replace H:=H.call hx15;refine BP U (AJ U (.bool _) U (Ab ?_));exact⟨rfl,(),rfl,⟨qaa Value.bool (by rw[qad];simp_all;try omega),trivial⟩,H⟩
 rintro - j17 w H;refine Aw _ U ?_ ?_
 .intro h1;replace h1:=BM h1;refine Ae (Ai U (qA (A5 (Av (AB (v:=(.bool _)) U U U ?_)))));exact⟨qaa Value.bool (by unfold Cu;rw[show(decide (fl.length=es.length) && CA N es)=false by simpa using h1];rfl),H.ext⟩
 .intro h1;replace h1:=BN h1;have h1':(decide (fl.length=es.length) && CA N es)=true:=by simpa using h1
  have hw:Cu N es fl=(List.zipWith inB es fl).all id:=by unfold Cu;rw[h1'];rfl
  have hle:fl.length=es.length:=by simp only[qae,qar]at h1';exact h1'.1
  refine Ay (Aa (Ax (Ae (Ap U (Be Bf U (Af U (qA (A1 (Bw 274876858480 (α:=Nat) (fun i=>[(20,.int .i64 (i:Int))]) (fun i w'=>i<=fl.length/\Ctx w0 [] w' [(b2,Bl 123 [.int .i64 N,.slice a es.length c])]/\∀(k:Nat) (e:Ed) (x:Int),k<i->es[k]?=some e->fl[k]?=some x->inB e x=true) (fun i=>fl.length - i) 0 U ?_ ?_ ?_)))))))))
  .exact⟨rfl,trivial⟩
  .exact⟨qaq _,H,fun k e x h=>absurd h (qbd _)⟩
  .rintro i j w ⟨hi,H,hb⟩;refine Ae (Bm U U (qA (Ax (Aw _ U ?_ ?_))))
   .intro h2;replace h2:=AM h2;obtain⟨e,he⟩:=AE (l:=es) (i:=i);obtain⟨x,hx⟩:=AE (l:=fl) (i:=i);refine Ay (Aa (Ax (A1 (Ae (Af U (Bg Rf Bf BD U U (by rfl) ?_))))));refine Bb B4 U (((Rf.ext0 H.ext).fld hx U (j:=0) U)) ?_;refine Ad U (Ad U (qA (Ae (Ci (α:=Unit) 137405399040 (fun _=>[(36,.bool (!inB e x))]) (fun _ w'=>Ctx w0 [] w' [(b2,Bl 123 [.int .i64 N,.slice a es.length c])]) U ?_ ?_))))
    .refine Af U (Bm U U (A2 U (AR 27 U ?_ ?_)))
     .intro h3;replace h3:=AM h3;refine Ag U (Ag U (Ag U (Ag U (Ag U (Ag U (Ag U (Ag U (AA U (.bool _) U (Ab ?_)))))))));exact⟨rfl,(),rfl,⟨qaa Value.bool (by unfold inB;rw[qad];simp_all;try omega),trivial⟩,H⟩
     .intro h4;replace h4:=AN h4;refine Af U (Ah CL U (AG DM U H at0 U (Af U (Bg R CF CG U U (by rfl) ?_))));refine Ah EE U (Bb B4 U (((R.ext0 H.ext).fld he U (j:=2) U)) ?_);refine C8 U U (AJ U (.bool _) U (Ab ?_));exact⟨rfl,(),rfl,⟨qaa Value.bool (by unfold inB;rw[qad];simp_all;try omega),trivial⟩,H⟩
    rintro - j36 w H;refine Aw _ U ?_ ?_
    .intro h3;replace h3:=BM h3;refine Ae (Ai U (qA (A5 (AF (Av (Av (AF (Av (AB (v:=(.bool _)) U U U ?_)))))))));exact⟨qaa Value.bool (by rw[hw,ET (Q7 he hx) (show id (inB e x)=false by simpa using h3)]),H.ext⟩
    .intro h3;replace h3:=BN h3;refine Ay (A8 (Aa (A0 (Az U U ?_))));refine Af U (qA ?_);refine⟨i+1,rfl,⟨rfl,trivial⟩,⟨by omega,H,fun k f y hk hf hy=>?_⟩,by omega⟩
     rcases qap k i with h7|h7
     .exact hb k f y h7 hf hy
     .obtain rfl:k=i:=by omega
      rw[he]at hf;rw[hx]at hy;cases hf;cases hy
      simpa using h3
   .intro h2;replace h2:=AN h2;refine Bt (An (An (AK (Aa (Ae (Ai U (qA (A5 (AB (v:=(.bool _)) U U U ?_)))))))));refine⟨qaa Value.bool ?_,H.ext⟩;rw[hw,Gc fun k x hk hx=>?_];rw[qc5]at hk;obtain⟨e,he⟩:=AE (l:=es) (i:=k);obtain⟨y,hy⟩:=AE (l:=fl) (i:=k);rw[Q7 he hy]at hx;cases hx;exact hb k e y (by omega) he hy
theorem C5{N:Int}{es:List Ed}{fl:List Int}(h:Cu N es fl=true):fl.length=es.length/\CA N es=true/\∀(i:Nat) (e:Ed) (x:Int),es[i]?=some e->fl[i]?=some x->0<=x/\x<=e.cap:=by
 unfold Cu at h;simp only[qae,qar,qaw]at h;refine⟨h.1.1,h.1.2,fun i e x he hx=>?_⟩;have:=h.2 _ (qac (Q7 he hx));unfold inB at this
 simpa using this
theorem CS{N:Int}{es:List Ed}(h:CA N es=true):1<=N/\N<=40/\es.length<=200/\(∀e∈es,Gx N e=true)/\Gy es<=4611686018427387904:=by
 unfold CA at h;simp only[qae,qar,qaw]at h;exact⟨h.1.1,h.1.2,h.2.1,h.2.2.1,h.2.2.2⟩
def Ms(es:List Ed)(a:Int):Bool:=decide (0<=a) && decide (a<2*es.length)
theorem Ae2(N:Int)(a:Option Addr)(n c:Nat)(es:List Ed)(hn:es.length=n)(hb:n<=1000000)(k:Int)(w:World):Ret prog 201 #[Eo N a n c,.int .i64 k] w fun v w'=>v=.bool (Ms es k)/\Ext [] w w':=by
 subst hn;obtain⟨w0,rfl,H⟩:=qE w;refine Au (fn:=f201) func201 U [Eo N a es.length c,.int .i64 k] U (Ae (Bu [.int .i64 N,.slice a es.length c] (.agg _) U U H ?_));rintro b2 w - H;refine Ai U (qA (Ae (Af U (CM U U (A2 U (AR 7 U ?_ ?_))))))
 .intro h1;replace h1:=AM h1;refine Af U (Ah CL U (AG DM U H at0 U (Be CF U (D0 U U ?_))));refine Bm U U (AA U (.bool _) U (Ai U (qA (A5 (AB (v:=(.bool _)) U U U ?_)))));exact⟨qaa Value.bool (by unfold Ms;rw[qad];simp_all;try omega),H.ext⟩
 .intro h2;replace h2:=AN h2;refine Ag U (Ag U (Ag U (Ag U (Ag U (Ag U (AJ U (.bool _) U (Ai U (qA (A5 (AB (v:=(.bool _)) U U U ?_))))))))));exact⟨qaa Value.bool (by unfold Ms;rw[qad];simp_all;try omega),H.ext⟩
theorem YL(k:Nat)(w:World)(hk:k<9223372036854775808:=by omega):Ret prog 217 #[.int .i64 (k:Int)] w fun v w'=>v=.bool (decide (k % 2=1))/\w=w':=by
 obtain⟨w0,rfl⟩:=qD w;refine Au (fn:=f217) func217 U [.int .i64 (k:Int)] U (Ae (Ai U (qA (Ae (Af U (Qd (b:=1) U U U (by omega) (by omega) ?_))))));rw[Nat.and_one_is_mod];refine C3 U U (Ai U (qA (A5 (AB (v:=(.bool _)) U U U ?_))));exact⟨qaa Value.bool (by rw[qad];simp;omega),rfl⟩
def IL(e:Ed)(k:Nat):Int × Int × Int:=if k % 2=1 then(e.t,e.f,-e.cost)else(e.f,e.t,e.cost)
theorem Aje(N:Int)(a:Option Addr)(n c:Nat)(es:List Ed)(w:World)(R:Rd w a 4 CO es)(hn:es.length=n)(hb:n<=1000000)(k:Nat){e:Ed}(he:es[k / 2]?=some e)(hc: -9223372036854775808<e.cost/\e.cost<=9223372036854775807:=by omega):Ret prog 205 #[Eo N a n c,.int .i64 (k:Int)] w fun v w'=>v=.tuple #[.int .i64 (IL e k).1,.int .i64 (IL e k).2.1,.int .i64 (IL e k).2.2]/\Ext [] w w':=by
 subst hn;obtain⟨w0,rfl,H⟩:=qE w;have hk:=CD he;refine Au (fn:=f205) func205 U [Eo N a es.length c,.int .i64 (k:Int)] U (Ae (Bu [.int .i64 N,.slice a es.length c] (.agg _) U U H ?_));rintro b2 w - H;refine Ad U (Ad U (Ad U (qA (Ae (Ah CL U (AG DM U H at0 U (Af U (JK (n:=1) U U U ?_))))))));rw[show k / 2 ^ 1=k / 2 from rfl];refine Bg R CF CG U U (by rfl) (C9 _ GU CG U U ((R.ext0 H.ext).row he U) ?_);refine Bc Gp H ?_;rintro b7 w - H;refine Bn CG U U U (by exact I4 _) H at0 U ?_;rintro w H;refine qA (Ax (Ae (Af U (Al qB (YL k _) U ?_))));rintro v w ⟨rfl,rfl⟩;refine qA (Aw _ U ?_ ?_)
 .intro h1;refine DT (fun x=>x=_) Br U (A6 F6 U (Cj Cc U (by rintro _ rfl;exact H.drew) at0 U ?_));refine A6 F5 U (Cj Cc U (by rintro _ rfl;exact H.drew) at0 U ?_);refine A6 GD U (Cj B4 U (by rintro _ rfl;exact H.drew) at0 U ?_);refine ZF U U (Dv U (Dv U (Dv U (BS ?_))));rintro _ rfl;replace H:=H.drew;refine A5 (Av (Io (v1:=(.int _ _)) (v2:=(.int _ _)) (v3:=(.int _ _)) U U U U U ?_));exact⟨by unfold IL;rw[if_pos (qba h1)],H.ext⟩
 .intro h1;refine Ay (Aa (DT (fun x=>x=_) Br U ?_));refine A6 F5 U (Cj Cc U (by rintro _ rfl;exact H.drew) at0 U ?_);refine A6 F6 U (Cj Cc U (by rintro _ rfl;exact H.drew) at0 U ?_);refine A6 GD U (Cj B4 U (by rintro _ rfl;exact H.drew) at0 U ?_);refine Dv U (Dv U (Dv U (BS ?_)));rintro _ rfl;replace H:=H.drew;refine A5 (Io (v1:=(.int _ _)) (v2:=(.int _ _)) (v3:=(.int _ _)) U U U U U ?_);exact⟨by unfold IL;rw[if_neg (qbn h1)],H.ext⟩
def Gz(N:Int)(es:List Ed)(k:Int):Int × Int × Int:=if(Ms es k && CA N es)=true then IL (es.getD (k.toNat / 2) ⟨0,0,0,0⟩) k.toNat else(0,0,0)
theorem Ub(N:Int)(a:Option Addr)(n c:Nat)(es:List Ed)(w:World)(R:Rd w a 4 CO es)(hn:es.length=n)(hN:I64 N)(k:Int)(hb:n<=1000000:=by omega):Ret prog 178 #[Eo N a n c,.int .i64 k] w fun v w'=>v=.tuple #[.int .i64 (Gz N es k).1,.int .i64 (Gz N es k).2.1,.int .i64 (Gz N es k).2.2]/\Ext [] w w':=by
 subst hn;obtain⟨w0,rfl,H⟩:=qE w;refine Au (fn:=f178) func178 U [Eo N a es.length c,.int .i64 k] U (Ae (Bu [.int .i64 N,.slice a es.length c] (.agg _) U U H ?_));rintro b2 w - H;refine Ad U (Ad U (Ad U (qA (Ax (Ae (Ci (α:=Unit) 65408 (fun _=>[(15,.bool (!(Ms es k && CA N es)))]) (fun _ w'=>Ctx w0 [] w' [(b2,Bl 123 [.int .i64 N,.slice a es.length c])]) U ?_ ?_))))))
 .refine Cg CE Ct U H at0 U (Af U (Al qB (Ae2 N a es.length c es U hb k _) U ?_));rintro v w ⟨rfl,hx9⟩;replace H:=H.call hx9;refine BP U (A2 U (AR 11 U ?_ ?_))
  .intro h1;replace h1:=BM h1;refine Ag U (Ag U (Ag U (AA U (.bool _) U (Ab ?_))));exact⟨rfl,(),rfl,⟨qaa Value.bool (by rw[qad];simp_all),trivial⟩,H⟩
  .intro h2;replace h2:=BN h2;refine Cg CE Ct U H at0 U (Al qB (Nd N a es.length c es _ (R.ext0 H.ext) U hN) U ?_);rintro v w ⟨rfl,hx13⟩;replace H:=H.call hx13;refine BP U (AJ U (.bool _) U (Ab ?_));exact⟨rfl,(),rfl,⟨qaa Value.bool (by rw[qad];simp_all),trivial⟩,H⟩
 rintro - j15 w H;refine Aw _ U ?_ ?_
 .intro h1;replace h1:=BM h1;refine Ae (Ad U (Ad U (Ad U (qA (A5 (Av (Io (v1:=(.int _ _)) (v2:=(.int _ _)) (v3:=(.int _ _)) U U U U U ?_)))))));exact⟨by unfold Gz;rw[if_neg (by rw[show(Ms es k && CA N es)=false by simpa using h1];simp)],H.ext⟩
 .intro h1;replace h1:=BN h1;have h1':(Ms es k && CA N es)=true:=by simpa using h1
  have hk:0<=k/\k<2*es.length:=by
   simp only[qae]at h1';have:=h1'.1;unfold Ms at this
   simpa using this
  obtain⟨q,rfl⟩:∃q:Nat,k=(q:Int):=⟨k.toNat,by omega⟩;obtain⟨e,he⟩:=AE (l:=es) (i:=q / 2);have hee:=(CS (Bool.and_eq_true_iff.1 h1').2).2.2.2.1 e (qac he);have hco:=Fb hee;have hE:Gz N es (q:Int)=IL e q:=by unfold Gz;rw[if_pos h1',qbg,qbu,he];rfl
  rw[hE];refine Ay (Aa (Ae (Cg CE Ct U H at0 U (Af U (Al qB (Aje N a es.length c es _ (R.ext0 H.ext) U hb q he) U ?_)))));rintro v w ⟨rfl,hx18⟩;replace H:=H.call hx18;refine AH U U (AH U U (AH U U (Ad U (Ad U (Ad U (qA (A5 (Io (v1:=(.int _ _)) (v2:=(.int _ _)) (v3:=(.int _ _)) U U U U U ?_))))))));exact⟨rfl,H.ext⟩
def OT(e:Ed)(x:Int)(k:Nat):Int:=if k % 2=1 then x else e.cap - x
theorem Ajf(N:Int)(a b:Option Addr)(n c m d:Nat)(es:List Ed)(fl:List Int)(w:World)(R:Rd w a 4 CO es)(hn:es.length=n)(hb:n<=1000000)(Rf:Rd w b 1 I1 fl)(hm:fl.length=m)(k:Nat){e:Ed}{x:Int}(he:es[k / 2]?=some e)(hx:fl[k / 2]?=some x)(hr: -9223372036854775808<=e.cap - x/\e.cap - x<=9223372036854775807:=by omega):
  Ret prog 202 #[Eo N a n c,.slice b m d,.int .i64 (k:Int)] w fun v w'=>v=.int .i64 (OT e x k)/\Ext [] w w':=by
 subst hn hm;obtain⟨w0,rfl,H⟩:=qE w;have hk:=CD he;have hkx:=CD hx;refine Au (fn:=f202) func202 U [Eo N a es.length c,.slice b fl.length d,.int .i64 (k:Int)] U (Ae (Bu [.int .i64 N,.slice a es.length c] (.agg _) U U H ?_));rintro b3 w - H;refine Ad U (qA (Ae (Ap U (Af U (JK (n:=1) U U U ?_)))));rw[show k / 2 ^ 1=k / 2 from rfl];refine Bg Rf Bf BD U U (by rfl) (Bb B4 U (((Rf.ext0 H.ext).fld hx U (j:=0) U)) ?_);refine Ad U (qA (Ax (Ae (Af U (Al qB (YL k _) U ?_)))));rintro v w ⟨rfl,rfl⟩;refine qA (Aw _ U ?_ ?_)
 .intro h1;refine Ae (Af U (Ad U (qA (A5 (Av (AB (v:=(.int _ _)) U U U ?_))))));exact⟨by unfold OT;rw[if_pos (qba h1)],H.ext⟩
 .intro h1;refine Ay (Aa (Ae (Ah CL U (AG DM U H at0 U (Af U (JK (n:=1) U U U ?_))))));rw[show k / 2 ^ 1=k / 2 from rfl];refine Bg R CF CG U U (by rfl) (Ah EE U (Bb B4 U (((R.ext0 H.ext).fld he U (j:=2) U)) ?_));refine Af U (Bo U U ?_);refine Ad U (qA (A5 (AB (v:=(.int _ _)) U U U ?_)));exact⟨by unfold OT;rw[if_neg (qbn h1)],H.ext⟩
def LY(N:Int)(es:List Ed)(fl:List Int)(k:Int):Int:=if(Ms es k && Cu N es fl)=true then OT (es.getD (k.toNat / 2) ⟨0,0,0,0⟩) (fl.getD (k.toNat / 2) 0) k.toNat else 0
theorem Uc(N:Int)(a b:Option Addr)(n c m d:Nat)(es:List Ed)(fl:List Int)(w:World)(R:Rd w a 4 CO es)(hn:es.length=n)(hN:I64 N)(Rf:Rd w b 1 I1 fl)(hm:fl.length=m)(k:Int)(hb:n<=1000000:=by omega)(hm2:m<=9223372036854775000:=by omega):Ret prog 173 #[Eo N a n c,.slice b m d,.int .i64 k] w fun v w'=>v=.int .i64 (LY N es fl k)/\Ext [] w w':=by
 subst hn hm;obtain⟨w0,rfl,H⟩:=qE w;refine Au (fn:=f173) func173 U [Eo N a es.length c,.slice b fl.length d,.int .i64 k] U (Ae (Bu [.int .i64 N,.slice a es.length c] (.agg _) U U H ?_));rintro b3 w - H;refine Ad U (qA (Ax (Ae (Ci (α:=Unit) 130944 (fun _=>[(16,.bool (!(Ms es k && Cu N es fl)))]) (fun _ w'=>Ctx w0 [] w' [(b3,Bl 123 [.int .i64 N,.slice a es.length c])]) U ?_ ?_))))
 .refine Cg CE Ct U H at0 U (Af U (Al qB (Ae2 N a es.length c es U hb k _) U ?_));rintro v w ⟨rfl,hx9⟩;replace H:=H.call hx9;refine BP U (A2 U (AR 11 U ?_ ?_))
  .intro h1;replace h1:=BM h1;refine Ag U (Ag U (Ag U (Ag U (AA U (.bool _) U (Ab ?_)))));exact⟨rfl,(),rfl,⟨qaa Value.bool (by rw[qad];simp_all),trivial⟩,H⟩
  .intro h2;replace h2:=BN h2;refine Cg CE Ct U H at0 U (Ap U (Al qB (LC N a b es.length c fl.length d es fl _ (R.ext0 H.ext) U hN (Rf.ext0 H.ext) U hm2) U ?_));rintro v w ⟨rfl,hx14⟩;replace H:=H.call hx14;refine BP U (AJ U (.bool _) U (Ab ?_));exact⟨rfl,(),rfl,⟨qaa Value.bool (by rw[qad];simp_all),trivial⟩,H⟩
 rintro - j16 w H;refine Aw _ U ?_ ?_
 .intro h1;replace h1:=BM h1;refine Ae (Ad U (qA (A5 (Av (AB (v:=(.int _ _)) U U U ?_)))));exact⟨by unfold LY;rw[if_neg (by rw[show(Ms es k && Cu N es fl)=false by simpa using h1];simp)],H.ext⟩
 .intro h1;replace h1:=BN h1;have h1':(Ms es k && Cu N es fl)=true:=by simpa using h1
  have hk:0<=k/\k<2*es.length:=by
   simp only[qae]at h1';have:=h1'.1;unfold Ms at this
   simpa using this
  obtain⟨q,rfl⟩:∃q:Nat,k=(q:Int):=⟨k.toNat,by omega⟩;obtain⟨hl,hri,hin⟩:=C5 (Bool.and_eq_true_iff.1 h1').2;obtain⟨e,he⟩:=AE (l:=es) (i:=q / 2);obtain⟨x,hx⟩:=AE (l:=fl) (i:=q / 2);have hee:=(CS hri).2.2.2.1 e (qac he);have hco:=Fb hee;have hxx:=hin _ e x he hx;have hE:LY N es fl (q:Int)=OT e x q:=by unfold LY;rw[if_pos h1',qbg,qbu,he,qbu,hx];rfl
  rw[hE];refine Ay (Aa (Ae (Cg CE Ct U H at0 U (Ap U (Af U (Al qB (Ajf N a b es.length c fl.length d es fl _ (R.ext0 H.ext) U hb (Rf.ext0 H.ext) U q he hx) U ?_))))));rintro v w ⟨rfl,hx20⟩;replace H:=H.call hx20;refine Ad U (qA (A5 (AB (v:=(.int _ _)) U U U ?_)));exact⟨rfl,H.ext⟩
abbrev ptr(b:Nat):Value := .pointer (some ⟨b,0,none⟩)
def tab(f:Nat->Int)(n:Nat):List Int:=(List.range n).map f
theorem Ds(f:Nat->Int)(n:Nat):(tab f n).length=n:=by unfold tab;simp
theorem BW{f:Nat->Int}{n i:Nat}(h:i<n):(tab f n)[i]?=some (f i):=Ec h
theorem Aqa(l:List Int):tab (fun i=>l.getD i 0) l.length=l:=by
 apply qci;intro j
 by_cases hj:j<l.length
 .rw[BW hj,qbu,qbl hj];rfl
 .rw[qbi (by rw[Ds];omega),qbi (by omega)]
theorem Q8{f:Nat->Int}{n i:Nat}{x:Int}(h:(tab f n)[i]?=some x):i<n/\x=f i:=by
 have h1:=CD h;rw[Ds]at h1;rw[BW h1]at h;cases h;exact⟨h1,rfl⟩
abbrev BZ(f:Nat->Int)(n:Nat):List Value:=(List.range n).map fun i => .int .i64 (f i)
theorem Aah(f:Nat->Int)(n:Nat):BZ f n=(tab f n).flatMap I1:=by
 unfold tab I1;rw[Acu,qcf];rfl
theorem CB{w:World}{b:Nat}{t:TypeId}{f:Nat->Int}{n:Nat}(h:w.heap[b]?=some (Bl t (BZ f n))):Rd w (some ⟨b,0,none⟩) 1 I1 (tab f n) :=
 Rd.of_bl (r:=[]) (enc:=I1) (xs:=tab f n) h (by rw[Aah,qa0]) fun _ _=>rfl
def e0:Ed:=⟨0,0,0,0⟩
def grE(N:Int)(es:List Ed):Gr:=⟨N.toNat,es.length,fun i=>(es.getD i e0).f.toNat,fun i=>(es.getD i e0).t.toNat,fun i=>(es.getD i e0).cost⟩
def Cs(es:List Ed)(i:Nat):Int:=(es.getD i e0).cap
def flE(fl:List Int)(i:Nat):Int:=fl.getD i 0
theorem Bv{α:Type}{l:List α}{i:Nat}{x d:α}(h:l[i]?=some x):l.getD i d=x:=by rw[qbu,h];rfl
def OU(N:Int)(es:List Ed)(fl:List Int):List Int:=tab (BK (grE N es) (flE fl)) N.toNat
def Gs(N:Int)(es:List Ed)(fl:List Int):Bool:=Cu N es fl && (OU N es fl).all fun x=>decide (x=0)
theorem Ae3(N:Int)(a b:Option Addr)(n c m d:Nat)(w:World):Ret prog 204 #[Eo N a n c,.slice b m d] w fun v w'=>∃b2 b3,v=.func (.func 218) #[] #[ptr b2,ptr b3]/\w'.heap[b2]?=some (Bl 123 [.int .i64 N,.slice a n c])/\w'.heap[b3]?=some (Bl 31 [.slice b m d])/\w.heap.size<=b2/\w.heap.size<=b3/\b2≠b3/\Ext [] w w':=by
 obtain⟨w0,rfl,H⟩:=qE w;refine Au (fn:=f204) func204 U [Eo N a n c,.slice b m d] U (Ae (Bu [.int .i64 N,.slice a n c] (.agg _) U U H ?_));rintro b2 w - H;refine Bu _ (.slice _ _ _) U U H ?_;rintro b3 w - H;refine Dd U .nilFunc U (qA (Ae (Cq [.pointer _,.pointer _] U (Dd U (.func _ _ _) U ?_))));refine qA (A5 (AB (v:=(.func _ _ _)) U U U ?_));have ho:∀x∈[(b3,Bl 31 [.slice b m d]),(b2,Bl 123 [.int .i64 N,.slice a n c])],w0.heap.size<=x.1:=fun x hx=>(H.own x hx).elim (fun h=>by cases h) id;exact⟨b2,b3,rfl,H.get at1,H.get at0,ho (b2,_) (qaj _ (qak ..)),ho (b3,_) (qak ..),H.ne at1 at0 (by decide),H.ext⟩
def YM(p:Ed × Int):List Value:=[.agg (CO p.1).toArray,.int .i64 p.2]
structure EdgeK(b2 b3:Nat)(N:Int)(a b:Option Addr)(n c m d:Nat)(es:List Ed)(fl:List Int)(w:World):Prop where
 h2:w.heap[b2]?=some (Bl 123 [.int .i64 N,.slice a n c])
 h3:w.heap[b3]?=some (Bl 31 [.slice b m d])
 R:Rd w a 4 CO es
 Rf:Rd w b 1 I1 fl
theorem Ajg{α β:Type}{l:List α}{m:List β}{i:Nat}{x:α}{y:β}(h1:l[i]?=some x)(h2:m[i]?=some y):(l.zip m)[i]?=some (x,y):=by
 rw[qee];exact⟨h1,h2⟩
theorem Aai{b2 b3:Nat}{N:Int}{a b:Option Addr}{n c m d:Nat}{es:List Ed}{fl:List Int}(hn:es.length=n)(hm:fl.length=m)(hnm:n=m)(hn2:n<=1000000:=by omega):TE prog 218 #[ptr b2,ptr b3] [] (fun _ w=>EdgeK b2 b3 N a b n c m d es fl w) ((es.zip fl).map YM):=by
 subst hn hm;intro l w J E hJ0 hJs hEs hK hY;obtain⟨M0,hJ0⟩:=hJ0;obtain⟨w0,rfl⟩:=qD w;have hlen:((es.zip fl).map YM).length=es.length:=by rw[qal,qde];omega
 refine Au (fn:=f218) func218 U [.func (.yield l) #[] #[],.pointer (some ⟨b2,0,none⟩),.pointer (some ⟨b3,0,none⟩)] U ?_;have K0:=(hK _ _ _ hJ0).2;refine Ae (Ah CL U (Bb DM U ((by rw[Aj K0.h2];rfl)) ?_));refine Be CF U (Af U (qA (A1 (Bw 8388144 (α:=Nat) (fun i=>[(9,.int .i64 (i:Int))]) (fun i w'=>i<=es.length/\∃M,J i M w') (fun i=>es.length - i) 0 U ?_ ?_ ?_))))
 .exact⟨rfl,trivial⟩
 .exact⟨qaq _,M0,hJ0⟩
 .rintro i j w ⟨hi,M,hJ⟩;have KK:=(hK _ _ _ hJ).2;have R:=KK.R;have Rf:=KK.Rf;obtain⟨w1,rfl,H⟩:=qE w;refine Ae (Bm U U (qA (Ax (Aw _ U ?_ ?_))))
  .intro h1;replace h1:=AM h1;obtain⟨e,he⟩:=AE (l:=es) (i:=i);obtain⟨x,hfx⟩:=AE (l:=fl) (i:=i);refine Ay (Aa (Ax (A1 (Ae (Af U (Bg R CF CG U U (by rfl) ?_))))));refine C9 _ GU CG U U ((R.ext0 H.ext).row he U) (Bc Gp H ?_);rintro b5 w - H;refine Ad U (Bn CG U U U (by exact I4 _) H at0 U ?_);rintro w H;refine qA ?_;have hY1:=hY i (YM (e,x)) M w.drew (by rw[qa1,Ajg he hfx];rfl) (hJs _ _ _ _ hJ (H.ext.trans (Ext.drew [] w)));have KR:=(hK _ _ _ (hJs _ _ _ _ hJ (H.ext.trans (Ext.drew [] w)))).2;refine Ej 6 Br U U (N9 U (.func _ _ _) U ?_);refine N8 U GU CG U (by rintro _ rfl;exact H.drew) at0 U ?_;refine BX BU U (by rintro _ rfl;exact((by rw[Aj KR.h3];rfl))) ?_;refine AX U (BL Rf Bf BD U U (by rfl) ?_)
   refine BX B4 U (by rintro _ rfl;exact((KR.Rf.fld hfx rfl (j:=0) rfl))) ?_;refine BS ?_;replace H:=H.drew;refine Hl (vs:=YM (e,x)) U hY1 U ?_;rintro u w hu;obtain⟨bb,rfl,hu1,hu0⟩:∃bb,u=.bool bb/\(bb=true->∃M,J (i+1) M w)/\(bb=false->E w):=hu.elim (fun h=>⟨true,h.1,fun _=>let ⟨M',h1,_⟩:=h.2;⟨M',h1⟩,fun h=>by cases h⟩) (fun h=>⟨false,h.1,(fun h=>by cases h),fun _=>h.2⟩);refine BP U (qA (Aw _ U ?_ ?_))
   .intro h2;replace h2:=BM h2;refine A5 (AF (Av (Av (AF (Gl U U ?_)))));exact .inr (hu0 (by simpa using h2))
   .intro h2;replace h2:=BN h2;refine Ay (A8 (Aa (A0 (Az U U ?_))));refine Af U (qA ?_);exact⟨i+1,rfl,⟨rfl,trivial⟩,⟨by omega,hu1 (by simpa using h2)⟩,by omega⟩
  .intro h1;replace h1:=AN h1;refine Bt (An (An (AK (CV U U ?_))));obtain rfl:i=es.length:=by omega
   exact .inl ⟨M,by rw[hlen];exact hJ⟩
theorem GF{p:Prop}[Decidable p](h:p):one p=1:=if_pos h
theorem Gd{p:Prop}[Decidable p](h:¬p):one p=0:=if_neg h
theorem Dw(p:Nat->Int)(v:Nat)(x:Int):upd p v x v=x:=if_pos rfl
theorem E6{p:Nat->Int}{v:Nat}{x:Int}{u:Nat}(h:u≠v):upd p v x u=p u:=if_neg h
theorem GW(g:Gr)(x:Nat->Int)(k v:Nat):E0 g x (k+1) v=E0 g x k v+(one (g.t k=v) - one (g.f k=v))*x k:=rfl
theorem Ajh(N:Int)(a b:Option Addr)(n c m d:Nat)(es:List Ed)(fl:List Int)(w:World)(R:Rd w a 4 CO es)(hn:es.length=n)(hN:I64 N)(Rf:Rd w b 1 I1 fl)(hm:fl.length=m)(hm2:m<=9223372036854775000) :
  Ret prog 177 #[Eo N a n c,.slice b m d] w fun v w'=>(Cu N es fl=false->v=.slice none 0 0)/\(Cu N es fl=true->∃b',v=.slice (some ⟨b',0,none⟩) N.toNat N.toNat/\w'.heap[b']?=some (Bl 2 (BZ (BK (grE N es) (flE fl)) N.toNat))/\w.heap.size<=b')/\Ext [] w w':=by
 subst hn hm;obtain⟨w0,rfl,H⟩:=qE w;refine Ii (fn:=f177) func177 U [Eo N a es.length c,.slice b fl.length d] U (Ae (Bu [.int .i64 N,.slice a es.length c] (.agg _) U U H ?_));rintro b2 w - H;refine Am U (qA (Ax (Ae (Cg CE Ct U H at0 U (Ap U (Al qB (LC N a b es.length c fl.length d es fl _ (R.ext0 H.ext) U hN (Rf.ext0 H.ext) U hm2) U ?_))))));rintro v w ⟨rfl,hx10⟩;replace H:=H.call hx10;refine BP U (qA (Aw _ U ?_ ?_))
 .intro h1;replace h1:=BM h1;refine Ae (Am U (qA (A5 (Av (MJ (v:=(.slice _ _ _)) U U ?_)))));have h1':Cu N es fl=false:=by simpa using h1
  exact⟨fun _=>rfl,fun h=>(by rw[h1']at h;cases h),H.ext⟩
 .intro h1;replace h1:=BN h1;have h1':Cu N es fl=true:=by simpa using h1
  obtain⟨hl,hr,hin⟩:=C5 h1';obtain⟨hN1,hN40,hn200,hed,-⟩:=CS hr;obtain⟨nn,rfl⟩:∃nn:Nat,N=(nn:Int):=⟨N.toNat,by omega⟩;obtain⟨g,hg⟩:=qD (grE (nn:Int) es);obtain⟨x,hx⟩:=qD (flE fl);have hgE:g.E=es.length:=by rw[hg];rfl
  refine Ay (Aa (Ae (Ah Ev U (AG Cc U H at0 U (HY Bf BD Mn Fh U U H ?_)))));rintro b14 w - H;rw[show((nn:Int)).toNat=nn from rfl,Fo]at H;refine Bc Amk H ?_;rintro b5 w - H;refine Cb (.slice _ _ _) Ame U U U H at0 (by decide) ?_;rintro w H;refine qA (Ax (Ae (Cg CE Ct U H at2 U (Ap U ?_))));have hlt:=H.lt (k:=0) rfl;have hlt1:=H.lt (k:=1) rfl;refine Al qB (Ae3 (nn:Int) a b es.length c fl.length d _) U ?_;rintro v w ⟨x2,x3,rfl,hb2,hb3,hs2,hs3,hne,hx17⟩;have H3:=(H.callAdd hx17 hb2 hs2).add hb3 (.inr (qa6 H.size hs3)) (fun y hy=>(qai.1 hy).elim (fun h=>by rw[h];exact hne) fun hy=>Nat.ne_of_lt (qa7 (Bd (H.blk y hy)) hs3));refine qA (A1 ?_);obtain⟨ws,rfl⟩:=qD w;have hk3:=H3.lt (k:=0) rfl;have hk2:=H3.lt (k:=1) rfl;have hk5:=H3.lt (k:=2) rfl;have hk14:=H3.lt (k:=3) rfl
  have hkb:=H3.lt (k:=4) rfl;have hs0:=H3.size;replace H3:=H3.perm (qb1 (l₁:=[_,_,_]) (l₂:=[_]))
  refine Pw (gf:=218) U qB (Aai (b2:=x2) (b3:=x3) (N:=(nn:Int)) (a:=a) (b:=b) (c:=c) (d:=d) (es:=es) (fl:=fl) U U hl.symm) (by kernel_rfl) (by kernel_rfl) (fun v hv=>by obtain⟨p,-,rfl⟩:=qah.1 hv;rfl)
   (fun i M w'=>(M=fun y=>y=b14)/\Ctx w0 [] w' [(b14,Bl 2 (BZ (E0 g x i) nn)),(x3,Bl 31 [.slice b fl.length d]),(x2,Bl 123 [.int .i64 (nn:Int),.slice a es.length c]),(b5,Bl 31 [.slice (some ⟨b14,0,none⟩) nn nn]),(b2,Bl 123 [.int .i64 (nn:Int),.slice a es.length c])]) (fun _=>False) (by simp)
   (fun w2 hx2 _=>⟨_,rfl,H3.call hx2⟩) (fun i M w' w'' hJ hx=>⟨hJ.1,hJ.2.step hx (fun y hy=>?_) fun z hz => .inr ?_⟩) (fun _ _ h _=>h) (fun i M w' hJ=>⟨fun y hy=>?_,hJ.2.get at2,hJ.2.get at1,R.ext0 hJ.2.ext,Rf.ext0 hJ.2.ext⟩) ?_ ?_ (fun _ h _=>h.elim)
  .simp only[qai,qau,or_false]at hy |-
   rcases hy with rfl|rfl|rfl|rfl|rfl <;> (dsimp only;omega)
  .simp only[qai,qau,or_false]at hz;omega
  .rw[hJ.1]at hy;subst hy;exact⟨Bd (hJ.2.get at0),by omega,by omega⟩
  .rintro i v _ w hxv ⟨rfl,HJ⟩ hsz;rw[qa1]at hxv;obtain⟨⟨e,xx⟩,hez,rfl⟩:=qdf.1 hxv;obtain⟨he,hfx⟩:=qee.1 hez;have hi:=CD he;obtain⟨hf0,hfN,ht0,htN,-⟩:=Fb (hed e (qac he));obtain⟨fn,hfn⟩:∃fn:Nat,e.f=fn:=⟨e.f.toNat,by omega⟩;obtain⟨tn,htn⟩:∃tn:Nat,e.t=tn:=⟨e.t.toNat,by omega⟩;have hgf:g.f i=fn:=by rw[hg];show((es.getD i e0).f.toNat)=fn;rw[Bv he,hfn];rfl
   have hgt:g.t i=tn:=by rw[hg];show((es.getD i e0).t.toNat)=tn;rw[Bv he,htn];rfl
   have hxi:x i=xx:=by rw[hx];exact Bv hfx
   have hxb:∀j,j<i+1->0<=x j/\x j<=4503599627370496:=fun j hj=>by
    obtain⟨e',he'⟩:=AE (l:=es) (i:=j);obtain⟨y,hy⟩:=AE (l:=fl) (i:=j);have h3:=hin j e' y he' hy;have h4:=Fb (hed e' (qac he'));rw[hx];show 0<=fl.getD j 0/\fl.getD j 0<=4503599627370496;rw[Bv hy];omega
   have hbf:=Le (g:=g) (x:=x) fn (k:=i) fun j hj=>hxb j (by omega);have hbt:=Le (g:=g) (x:=x) tn (k:=i) fun j hj=>hxb j (by omega);have hxx:=hxb i (by omega);rw[hxi]at hxx;obtain⟨o',ho'⟩:∃o',o'=upd (E0 g x i) fn (E0 g x i fn - xx):=⟨_,rfl⟩;have hof:o' fn=E0 g x i fn - xx:=by rw[ho',Dw]
   have hon:∀q,q≠fn->o' q=E0 g x i q:=fun q hq=>by rw[ho',E6 hq]
   have hot : -(201*4503599627370496)<=o' tn/\o' tn<=201*4503599627370496:=by
    by_cases h:tn=fn
    .rw[h,hof];omega
    .rw[hon tn h];omega
   have hst:∀q,E0 g x (i+1) q=upd o' tn (o' tn+xx) q:=fun q=>by
    rw[GW,hgf,hgt,hxi]
    by_cases h1:q=tn
    .subst h1;rw[Dw,GF rfl]
     by_cases h2:fn=q
     .subst h2;rw[GF rfl,hof];omega
     .rw[Gd h2,hon q (Ne.symm h2)];omega
    .rw[E6 h1,Gd (Ne.symm h1)]
     by_cases h2:fn=q
     .subst h2;rw[GF rfl,hof];omega
     .rw[Gd h2,hon q (Ne.symm h2)];omega
   obtain⟨w1,rfl,H⟩:=qE w;refine Ae (Bc Gp H ?_);rintro b6 w - H;refine Bn CG U U U (by exact I4 _) H at0 U ?_;rintro w H;refine qA (A0 (Ad U (Ab ?_)));refine⟨H.ext,fun wB hxB=>?_⟩;have hb6:=(H.own _ (qak ..)).elim (fun h=>by cases h) id
   have HB:=((HJ.callAdd H.ext (H.get at0) hb6).step hxB (fun y hy=>by
    simp only[qai,qau,or_false]at hy |-
    rcases hy with rfl|rfl|rfl|rfl|rfl|rfl <;> (dsimp only;omega)) (fun z hz => .inr (by rw[qab.1 hz];omega))).perm (List.Perm.swap _ _ _)
   obtain⟨w2,rfl⟩:=qD wB;have hb6B:=HB.get at1;have hb5B:=HB.get at4;have hn6:b6∉[b14]:=by rw[qab];omega
   have hn5:b5∉[b14]:=by rw[qab];exact HB.ne at4 at0 (by decide)
   have H:=Ctx.lend (L1:=[_]) (L2:=_) HB;dsimp only[List.map]at H;refine A1 (Ae (Bb BU U ((H.old (Aj hb5B _) hn5)) ?_));refine Ah F5 U (Bb Cc U ((H.old (Aj hb6B _) hn6)) ?_);refine Bp Bf BD U U (TA fn _ U B4 U H at0 (by rw[hfn];simp) U ?_);refine Af U (Bo U U ?_);refine Bp Bf BD U U (Cl fn (fun q => .int .i64 (o' q)) (.int _ _) BD U U U H at0 (by rw[hfn];simp) (by rw[hof]) (fun q _ hq=>by rw[hon q hq]) ?_);rintro w H;refine qA (A0 (Bb BU U ((H.old (Aj hb5B _) hn5)) ?_));refine Ah F6 U (Bb Cc U ((H.old (Aj hb6B _) hn6)) ?_);refine Bp Bf BD U U (TA tn _ U B4 U H at0 (by rw[htn];simp) U ?_);refine Af U (Az U U ?_);refine Bp Bf BD U U ?_
   refine Cl tn (fun q => .int .i64 (E0 g x (i+1) q)) (.int _ _) BD U U U H at0 (by rw[htn];simp) (by rw[hst,Dw]) (fun q _ hq=>by rw[hst,E6 hq]) ?_;rintro w H;refine Ab (A8 ?_);exact⟨_,⟨rfl,((Ctx.back (L1:=[_]) (L1':=[_]) HB H).perm (List.Perm.swap _ _ _)).tail⟩,fun y h => .inl h,[b14],H.ext,fun y hy => .inl (qab.1 hy)⟩
  .rintro M w ⟨-,HJ⟩ hD;rw[qal,qde,hl,Nat.min_self]at HJ;replace H:=HJ;refine A8 (Aa (Ae (AG BU U H at3 U (Am U (qA (A5 (MJ (v:=(.slice _ _ _)) U U (Ij hD U fun wF hxF=>?_))))))));refine⟨fun h=>(by rw[h1']at h;cases h),fun _=>⟨b14,rfl,?_,?_⟩,H.ext.then hxF fun z hz => .inr (by rw[qab.1 hz];omega)⟩
   .rw[hxF.block b14 (Bd (H.get at0)) (by rw[qab];omega)];have h3:=H.get at0;rw[show BK (grE (nn:Int) es) (flE fl)=E0 g x es.length by rw[hg,hx];rfl];exact h3
   .exact(H.own (b14,_) (qac (i:=0) U)).elim (fun h=>by cases h) id
theorem Ae4(N:Int)(a b:Option Addr)(n c m d:Nat)(es:List Ed)(fl:List Int)(w:World)(R:Rd w a 4 CO es)(hn:es.length=n)(hN:I64 N)(Rf:Rd w b 1 I1 fl)(hm:fl.length=m)(hm2:m<=9223372036854775000) :
  Ret prog 148 #[Eo N a n c,.slice b m d] w fun v w'=>v=.bool (Gs N es fl)/\Ext [] w w':=by
 subst hn hm;obtain⟨w0,rfl,H⟩:=qE w;refine Au (fn:=f148) func148 U [Eo N a es.length c,.slice b fl.length d] U (Ae (Bu [.int .i64 N,.slice a es.length c] (.agg _) U U H ?_));rintro b2 w - H;refine Ai U (qA (Ax (Ae (Cg CE Ct U H at0 U (Ap U (Al qB (LC N a b es.length c fl.length d es fl _ (R.ext0 H.ext) U hN (Rf.ext0 H.ext) U hm2) U ?_))))));rintro v w ⟨rfl,hx9⟩;replace H:=H.call hx9;refine BP U (qA (Aw _ U ?_ ?_))
 .intro h1;replace h1:=BM h1;refine Ae (Ai U (qA (A5 (Av (AB (v:=(.bool _)) U U U ?_)))));have h1':Cu N es fl=false:=by simpa using h1
  exact⟨qaa Value.bool (by unfold Gs;rw[h1'];rfl),H.ext⟩
 .intro h1;replace h1:=BN h1;have h1':Cu N es fl=true:=by simpa using h1
  have hfN:Gs N es fl=(OU N es fl).all fun x=>decide (x=0):=by unfold Gs;rw[h1'];rfl
  obtain⟨hN1,hN40,-⟩:=CS (C5 h1').2.1;obtain⟨nn,rfl⟩:∃nn:Nat,N=(nn:Int):=⟨N.toNat,by omega⟩;refine Ay (Aa (Ax (Ae (Cg CE Ct U H at0 U (Ap U (Al qB (Ajh (nn:Int) a b es.length c fl.length d es fl _ (R.ext0 H.ext) U hN (Rf.ext0 H.ext) U hm2) U ?_))))));rintro v w ⟨-,hv,hx13⟩;obtain⟨b13,rfl,hb13,hs13⟩:=hv h1';replace H:=H.call hx13;have R7:=CB hb13;rw[show((nn:Int)).toNat=nn from rfl]at R7 |-;refine Be Bf U (Af U (qA (A1 ?_)));have hov:OU (nn:Int) es fl=tab (BK (grE (nn:Int) es) (flE fl)) nn:=rfl;rw[<-hov]at R7;have hlen:(OU (nn:Int) es fl).length=nn:=by rw[hov,Ds]
  obtain⟨w7,rfl⟩:=qD w;refine Bw 4161616 (α:=Nat) (fun i=>[(15,.int .i64 (i:Int))]) (fun i w'=>i<=nn/\Ext [] w7 w'/\Ctx w0 [] w' [(b2,Bl 123 [.int .i64 (nn:Int),.slice a es.length c])]/\∀(k:Nat) (x:Int),k<i->(OU (nn:Int) es fl)[k]?=some x->decide (x=0)=true) (fun i=>nn - i) 0 U ?_ ?_ ?_
  .exact⟨rfl,trivial⟩
  .exact⟨qaq _,.refl _ _,H,fun k x h=>absurd h (qbd _)⟩
  .rintro i j w ⟨hi,hx7,H,hb⟩;refine Ae (Bm U U (qA (Ax (Aw _ U ?_ ?_))))
   .intro h2;replace h2:=AM h2;obtain⟨x,h7x⟩:=AE (l:=OU (nn:Int) es fl) (i:=i);refine Ay (Aa (Ax (A1 (Ae (Bg R7 Bf BD U U (by omega) ?_)))));refine Bb B4 U (((R7.ext0 hx7).fld h7x U (j:=0) U)) ?_;refine Ad U (qA (Ae (Af U (CK U U (qA (Aw _ U ?_ ?_))))))
    .intro h3;replace h3:=CY h3;refine Ae (Ai U (qA (A5 (AF (Av (Av (AF (Av (AB (v:=(.bool _)) U U U ?_)))))))));exact⟨qaa Value.bool (by rw[hfN,ET h7x (qa2 (by simpa using h3))]),H.ext⟩
    .intro h3;replace h3:=CZ h3;refine Ay (A8 (Aa (A0 (Az U U ?_))));refine Af U (qA ?_);refine⟨i+1,rfl,⟨rfl,trivial⟩,⟨by omega,hx7,H,fun k y hk hy=>?_⟩,by omega⟩
     rcases qap k i with h7|h7
     .exact hb k y h7 hy
     .obtain rfl:k=i:=by omega
      rw[h7x]at hy;cases hy
      simpa using h3
   .intro h2;replace h2:=AN h2;refine Bt (An (An (AK (Aa (Ae (Ai U (qA (A5 (AB (v:=(.bool _)) U U U ?_)))))))));exact⟨qaa Value.bool (by rw[hfN,Gc fun k x hk hx=>hb k x (by omega) hx]),H.ext⟩
theorem F7{N:Int}{es:List Ed}{fl:List Int}(h:Gs N es fl=true):Cu N es fl=true/\∀v,v<N.toNat->BK (grE N es) (flE fl) v=0:=by
 unfold Gs OU at h;rw[qae]at h;refine⟨h.1,fun v hv=>?_⟩;have h2:=qaw.1 h.2 _ (qac (BW hv))
 simpa using h2
def Pk(x:Int):Bool:=decide (-1099511627776<=x) && decide (x<=1099511627776)
def GL(N:Int)(pot:List Int):Bool:=pot.all Pk && decide ((pot.length:Int)=N)
def Ae5(N:Int)(es:List Ed)(pot:List Int)(k:Int):Int:=(Gz N es k).2.2+pot.getD (Gz N es k).1.toNat 0 - pot.getD (Gz N es k).2.1.toNat 0
def JU(N:Int)(es:List Ed)(fl pot:List Int)(k:Nat):Bool := !(decide (Ae5 N es pot (k:Int)<0) && decide (0<LY N es fl (k:Int)))
def Lf(N:Int)(es:List Ed)(fl pot:List Int):Bool:=(List.range (2*es.length)).all (JU N es fl pot)
def FV(N:Int)(es:List Ed)(fl pot:List Int):Bool:=CA N es && (Gs N es fl && (GL N pot && Lf N es fl pot))
theorem Aji(N:Int)(a p:Option Addr)(n c m d:Nat)(pot:List Int)(w:World)(R:Rd w p 1 I1 pot)(hm:pot.length=m)(hm2:m<=9223372036854775000) :
  Ret prog 150 #[Eo N a n c,.slice p m d] w fun v w'=>v=.bool (GL N pot)/\Ext [] w w':=by
 subst hm;obtain⟨w0,rfl,H⟩:=qE w;refine Au (fn:=f150) func150 U [Eo N a n c,.slice p pot.length d] U (Ae (Bu [.int .i64 N,.slice a n c] (.agg _) U U H ?_));rintro b2 w - H;refine Ai U (qA (Ax (Ae (Ap U (Be Bf U (Af U (qA (A1 (Bw 1048144 (α:=Nat) (fun i=>[(9,.int .i64 (i:Int))]) (fun i w'=>i<=pot.length/\Ctx w0 [] w' [(b2,Bl 123 [.int .i64 N,.slice a n c])]/\∀(k:Nat) (x:Int),k<i->pot[k]?=some x->Pk x=true) (fun i=>pot.length - i) 0 U ?_ ?_ ?_)))))))))
 .exact⟨rfl,trivial⟩
 .exact⟨qaq _,H,fun k x h=>absurd h (qbd _)⟩
 .rintro i j w ⟨hi,H,hb⟩;refine Ae (Bm U U (qA (Ax (Aw _ U ?_ ?_))))
  .intro h2;replace h2:=AM h2;obtain⟨x,h7x⟩:=AE (l:=pot) (i:=i);refine Ay (Aa (Ax (A1 (Ae (Bg R Bf BD U U (by rfl) ?_)))));refine Bb B4 U (((R.ext0 H.ext).fld h7x U (j:=0) U)) ?_;refine Ad U (qA (Ae (Ci (α:=Unit) 516096 (fun _=>[(18,.bool (!Pk x))]) (fun _ w'=>Ctx w0 [] w' [(b2,Bl 123 [.int .i64 N,.slice a n c])]) U ?_ ?_)))
   .refine Af U (Bm U U (A2 U (AR 15 U ?_ ?_)))
    .intro h1;replace h1:=AM h1;refine Ag U (Ag U (AA U (.bool _) U (Ab ?_)));exact⟨rfl,(),rfl,⟨qaa Value.bool (by unfold Pk;rw[qad];simp_all;try omega),trivial⟩,H⟩
    .intro h2;replace h2:=AN h2;refine Af U (C8 U U (AJ U (.bool _) U (Ab ?_)));exact⟨rfl,(),rfl,⟨qaa Value.bool (by unfold Pk;rw[qad];simp_all;try omega),trivial⟩,H⟩
   rintro - j18 w H;refine Aw _ U ?_ ?_
   .intro h3;replace h3:=BM h3;refine Ae (Ai U (qA (A5 (AF (Av (Av (AF (Av (AB (v:=(.bool _)) U U U ?_)))))))));exact⟨qaa Value.bool (by unfold GL;rw[ET h7x (by simpa using h3)];rfl),H.ext⟩
   .intro h3;replace h3:=BN h3;refine Ay (A8 (Aa (A0 (Az U U ?_))));refine Af U (qA ?_);refine⟨i+1,rfl,⟨rfl,trivial⟩,⟨by omega,H,fun k y hk hy=>?_⟩,by omega⟩
    rcases qap k i with h7|h7
    .exact hb k y h7 hy
    .obtain rfl:k=i:=by omega
     rw[h7x]at hy;cases hy
     simpa using h3
  .intro h2;replace h2:=AN h2;refine Bt (An (An (AK (Aa (Ae (Ap U (Be Bf U (Ah Ev U (AG Cc U H at0 U (C3 U U (Ai U (qA (A5 (AB (v:=(.bool _)) U U U ?_))))))))))))));exact⟨qaa Value.bool (by unfold GL;rw[Gc fun k x hk hx=>hb k x (by omega) hx,qcl]),H.ext⟩
theorem Ud{N:Int}{es:List Ed}(hr:CA N es=true){k:Nat}(hk:k<2*es.length):∃e,es[k / 2]?=some e/\Gz N es (k:Int)=IL e k/\0<=(IL e k).1/\(IL e k).1<N/\0<=(IL e k).2.1/\(IL e k).2.1<N /\ -1000<=(IL e k).2.2/\(IL e k).2.2<=1000:=by
 obtain⟨e,he⟩:=AE (l:=es) (i:=k / 2);have hco:=Fb ((CS hr).2.2.2.1 e (qac he));refine⟨e,he,?_,?_⟩
 .unfold Gz;rw[if_pos (by rw[hr,qdu];unfold Ms;simp;omega),qbg,Bv he]
 .unfold IL
  split <;> (dsimp only;omega)
theorem Mu{N:Int}{pot:List Int}(hp:GL N pot=true):(pot.length:Int)=N/\∀(i:Nat) (x:Int),pot[i]?=some x -> -1099511627776<=x/\x<=1099511627776:=by
 unfold GL Pk at hp;simp only[qae,qar,qaw]at hp;exact⟨hp.2,fun i x hx=>hp.1 x (qac hx)⟩
theorem Ue{N:Int}{es:List Ed}{fl:List Int}(hw:Cu N es fl=true){k:Nat}(hk:k<2*es.length):∃e x,es[k / 2]?=some e/\fl[k / 2]?=some x/\LY N es fl (k:Int)=OT e x k/\0<=x/\x<=e.cap/\e.cap<=4503599627370496:=by
 obtain⟨hl,hri,hin⟩:=C5 hw;obtain⟨e,he⟩:=AE (l:=es) (i:=k / 2);obtain⟨x,hx⟩:=AE (l:=fl) (i:=k / 2);have hco:=Fb ((CS hri).2.2.2.1 e (qac he));have:=hin _ e x he hx;refine⟨e,x,he,hx,?_,this.1,this.2,by omega⟩;unfold LY;rw[if_pos (by rw[hw,qdu];unfold Ms;simp;omega),qbg,Bv he,Bv hx]
abbrev Vy(b p:Option Addr)(m d q r:Nat):Value := .agg #[.slice b m d,.slice p q r]
theorem Ae6(N:Int)(a b p:Option Addr)(n c m d q r:Nat)(es:List Ed)(fl pot:List Int)(w:World)(R:Rd w a 4 CO es)(hn:es.length=n)(hN:I64 N)(Rf:Rd w b 1 I1 fl)(hm:fl.length=m)(Rp:Rd w p 1 I1 pot)(hq:pot.length=q)(hr:CA N es=true)(hw:Cu N es fl=true)(hp:GL N pot=true) :
  Ret prog 152 #[Eo N a n c,Vy b p m d q r] w fun v w'=>v=.bool (Lf N es fl pot)/\Ext [] w w':=by
 subst hn hm hq;obtain⟨w0,rfl,H⟩:=qE w;obtain⟨hN1,hN40,hn200,-⟩:=CS hr;obtain⟨hpl,hpb⟩:=Mu hp;have hfl:=(C5 hw).1;refine Au (fn:=f152) func152 U [Eo N a es.length c,Vy b p fl.length d pot.length r] U (Ae (Bu [.int .i64 N,.slice a es.length c] (.agg _) U U H ?_));rintro b2 w - H;refine Bu [.slice b fl.length d,.slice p pot.length r] (.agg _) U U H ?_;rintro b3 w - H;refine Ai U (qA (Ax (Ae (Ah CL U (AG DM U H at1 U (Be CF U (D0 U U ?_)))))));refine Af U (qA (A1 (Bw 70368744169968 (α:=Nat) (fun i=>[(13,.int .i64 (i:Int))]) (fun i w'=>i<=2*es.length/\Ctx w0 [] w' [(b3,Bl 125 [.slice b fl.length d,.slice p pot.length r]),(b2,Bl 123 [.int .i64 N,.slice a es.length c])]/\∀k,k<i->JU N es fl pot k=true) (fun i=>2*es.length - i) 0 U ?_ ?_ ?_)))
 .exact⟨rfl,trivial⟩
 .exact⟨qaq _,H,fun k h=>absurd h (qbd _)⟩
 .rintro i j w ⟨hi,H,hb⟩;refine Ae (Bm U U (qA (Ax (Aw _ U ?_ ?_))))
  .intro h2;replace h2:=AM h2;have hi2:i<2*es.length:=by omega
   obtain⟨e,he,hE,q1,q2,q3,q4,q5,q6⟩:=Ud hr hi2;obtain⟨e',x,he',hx,hro,r1,r2,r3⟩:=Ue hw hi2;obtain⟨un,hun⟩:∃un:Nat,(IL e i).1=un:=⟨(IL e i).1.toNat,by omega⟩;obtain⟨vn,hvn⟩:∃vn:Nat,(IL e i).2.1=vn:=⟨(IL e i).2.1.toNat,by omega⟩;obtain⟨pu,hpu⟩:=AE (l:=pot) (i:=un);obtain⟨pv,hpv⟩:=AE (l:=pot) (i:=vn);have hbu:=hpb _ _ hpu;have hbv:=hpb _ _ hpv
   have hli:Ae5 N es pot (i:Int)=(IL e i).2.2+pu - pv:=by
    unfold Ae5;rw[hE,hun,hvn,qbg,qbg,Bv hpu,Bv hpv]
   have hgo:JU N es fl pot i=true->∀k,k<i+1->JU N es fl pot k=true:=fun h3 k hk=>by
    rcases qap k i with h7|h7
    .exact hb k h7
    .obtain rfl:k=i:=by omega
     exact h3
   refine Ay (Aa (Ax (A1 (Ae (Af U (Ad U (qA (Ae (Cg CE Ct U H at1 U (Af U ?_))))))))));refine Al qB (Ub N a es.length c es _ (R.ext0 H.ext) U hN (i:Int)) U ?_;rintro v w ⟨rfl,hx19⟩;replace H:=H.call hx19;rw[hE,hun,hvn];refine Cr U (AH U U (AH U U (AH U U (Ad U (Ad U (Ad U (qA (Ej 19 Br U U ?_))))))));refine AX U (A6 FY U (Cj BU U (by rintro _ rfl;exact H.drew) at0 U ?_));refine AX U (BL Rp Bf BD U U (by rfl) ?_);refine BX B4 U (by rintro _ rfl;exact(((Rp.ext0 (H.ext.trans (Ext.drew [] _))).fld hpu rfl (j:=0) rfl))) ?_;refine D4 U U (A6 FY U (Cj BU U (by rintro _ rfl;exact H.drew) at0 U ?_));refine AX U (BL Rp Bf BD U U (by rfl) ?_)
   refine BX B4 U (by rintro _ rfl;exact(((Rp.ext0 (H.ext.trans (Ext.drew [] _))).fld hpv rfl (j:=0) rfl))) ?_;refine EA U U (LO U U (CW U (DK 37 U ?_ ?_)))
   .intro h3;replace h3:=AM h3;refine N8 U CE Ct U (by rintro _ rfl;exact H.drew) at1 U ?_;refine A6 Fe U (Cj BU U (by rintro _ rfl;exact H.drew) at0 U ?_);refine AX U (BS ?_);replace H:=H.drew;refine Al qB (Uc N a b es.length c fl.length d es fl _ (R.ext0 H.ext) U hN (Rf.ext0 H.ext) U (i:Int)) U ?_;rintro v w ⟨rfl,hx42⟩;replace H:=H.call hx42;refine C8 U U (AA U (.bool _) U (qA (Aw _ U ?_ ?_)))
    .intro h4;replace h4:=AM h4;refine Ae (Ai U (qA (A5 (AF (Av (Av (AF (Av (AB (v:=(.bool _)) U U U ?_)))))))));exact⟨qaa Value.bool (by unfold Lf;rw[ET (List.getElem?_range hi2) (by unfold JU;rw[hli,qan h3,qan h4];rfl)]),H.ext⟩
    .intro h4;replace h4:=AN h4;refine Ay (A8 (Aa (A0 (Az U U ?_))));refine Af U (qA ?_);exact⟨i+1,rfl,⟨rfl,trivial⟩,⟨by omega,H,hgo (by unfold JU;rw[hli,qa2 h4,qc4];rfl)⟩,by omega⟩
   .intro h3;replace h3:=AN h3;refine A3 U (A3 U (A3 U (A3 U (BS ?_))));replace H:=H.drew;refine Ag U (Ag U (AJ U (.bool _) U (qA (FE U (Ay (A8 (Aa (A0 (Az U U ?_)))))))));refine Af U (qA ?_);exact⟨i+1,rfl,⟨rfl,trivial⟩,⟨by omega,H,hgo (by unfold JU;rw[hli,qa2 h3,qdv];rfl)⟩,by omega⟩
  .intro h2;replace h2:=AN h2;refine Bt (An (An (AK (Aa (Ae (Ai U (qA (A5 (AB (v:=(.bool _)) U U U ?_)))))))));exact⟨qaa Value.bool (by unfold Lf;rw[qaw.2 fun k hk=>hb k (by have:=qa5.1 hk;omega)]),H.ext⟩
theorem Jy{w:World}{b:Nat}{t:TypeId}{l:List Value}(h:w.heap[b]?=some (Bl t l)):∀j v,l[j]?=some v->w.cell? ⟨b,0+j,none⟩=some v:=fun j v hv=>by
 rw[Aj h,qaz];exact hv
structure ChkK(b2 b3:Nat)(N:Int)(a b p:Option Addr)(c d r:Nat)(es:List Ed)(fl pot:List Int)(w:World):Prop where
 h2:w.heap[b2]?=some (Bl 123 [.int .i64 N,.slice a es.length c])
 h3:w.heap[b3]?=some (Bl 125 [.slice b fl.length d,.slice p pot.length r])
 R:Rd w a 4 CO es
 Rf:Rd w b 1 I1 fl
 Rp:Rd w p 1 I1 pot
theorem ChkK.ext{b2 b3:Nat}{N:Int}{a b p:Option Addr}{c d r:Nat}{es:List Ed}{fl pot:List Int}{w w':World}(K:ChkK b2 b3 N a b p c d r es fl pot w)(h:Ext [] w w'):ChkK b2 b3 N a b p c d r es fl pot w' :=
 ⟨h.to K.h2 (by simp),h.to K.h3 (by simp),K.R.ext0 h,K.Rf.ext0 h,K.Rp.ext0 h⟩
section
variable {b2 b3:Nat}{N:Int}{a b p:Option Addr}{c d r:Nat}{es:List Ed}{fl pot:List Int}{w:World}
theorem Ajj(K:ChkK b2 b3 N a b p c d r es fl pot w)(hN:I64 N):Ret prog 146 #[ptr b2] w fun v w'=>v=.bool (CA N es)/\Ext [] w w':=by
 obtain⟨w0,rfl,H⟩:=qE w;refine Au (fn:=f146) func146 U [.pointer (some ⟨b2,0,none⟩)] U ?_;refine Ae (Ai U (qA (Ae (C9 _ CE Ct U U (Jy K.h2) ?_))));refine Al qB (Nd N a es.length c es _ K.R U hN) U ?_;rintro v w ⟨rfl,hx3⟩;replace H:=H.call hx3;refine Ai U (qA (A5 (AB (v:=(.bool _)) U U U ?_)));exact⟨rfl,H.ext⟩
theorem Ajk(K:ChkK b2 b3 N a b p c d r es fl pot w)(hN:I64 N)(hf:fl.length<=9223372036854775000):Ret prog 147 #[ptr b2,ptr b3] w fun v w'=>v=.bool (Gs N es fl)/\Ext [] w w':=by
 obtain⟨w0,rfl,H⟩:=qE w;refine Au (fn:=f147) func147 U [.pointer (some ⟨b2,0,none⟩),.pointer (some ⟨b3,0,none⟩)] U ?_;refine Ae (Ai U (qA (Ae (C9 _ CE Ct U U (Jy K.h2) ?_))));refine Ah Fe U (Bb BU U ((by rw[Aj K.h3];rfl)) ?_);refine Al qB (Ae4 N a b es.length c fl.length d es fl _ K.R U hN K.Rf U hf) U ?_;rintro v w ⟨rfl,hx3⟩;replace H:=H.call hx3;refine Ai U (qA (A5 (AB (v:=(.bool _)) U U U ?_)));exact⟨rfl,H.ext⟩
theorem Ajl(K:ChkK b2 b3 N a b p c d r es fl pot w)(hq:pot.length<=9223372036854775000):Ret prog 149 #[ptr b2,ptr b3] w fun v w'=>v=.bool (GL N pot)/\Ext [] w w':=by
 obtain⟨w0,rfl,H⟩:=qE w;refine Au (fn:=f149) func149 U [.pointer (some ⟨b2,0,none⟩),.pointer (some ⟨b3,0,none⟩)] U ?_;refine Ae (Ai U (qA (Ae (C9 _ CE Ct U U (Jy K.h2) ?_))));refine Ah FY U (Bb BU U ((by rw[Aj K.h3];rfl)) ?_);refine Al qB (Aji N a p es.length c pot.length r pot _ K.Rp U hq) U ?_;rintro v w ⟨rfl,hx3⟩;replace H:=H.call hx3;refine Ai U (qA (A5 (AB (v:=(.bool _)) U U U ?_)));exact⟨rfl,H.ext⟩
theorem Ajm(K:ChkK b2 b3 N a b p c d r es fl pot w)(hN:I64 N)(hr:CA N es=true)(hw:Cu N es fl=true)(hp:GL N pot=true):Ret prog 151 #[ptr b2,ptr b3] w fun v w'=>v=.bool (Lf N es fl pot)/\Ext [] w w':=by
 obtain⟨w0,rfl,H⟩:=qE w;refine Au (fn:=f151) func151 U [.pointer (some ⟨b2,0,none⟩),.pointer (some ⟨b3,0,none⟩)] U ?_;refine Ae (Ai U (qA (Ae (C9 _ CE Ct U U (Jy K.h2) ?_))));refine C9 _ Qn KU U U (Jy K.h3) (Al qB (Ae6 N a b p es.length c fl.length d pot.length r es fl pot _ K.R U hN K.Rf U K.Rp U hr hw hp) U ?_);rintro v w ⟨rfl,hx3⟩;replace H:=H.call hx3;refine Ai U (qA (A5 (AB (v:=(.bool _)) U U U ?_)));exact⟨rfl,H.ext⟩
end
def askN(N:Int)(es:List Ed)(fl pot:List Int):Nat->Bool
 |0=>CA N es
 |1=>Gs N es fl
 |2=>GL N pot
 |_=>Lf N es fl pot
theorem Ajn{N:Int}{es:List Ed}{fl pot:List Int}(h:∀k,k<4->askN N es fl pot k=true):FV N es fl pot=true:=by
 have h0:=h 0 (by omega);have h1:=h 1 (by omega);have h2:=h 2 (by omega);have h3:=h 3 (by omega);unfold FV;rw[show CA N es=true from h0,show Gs N es fl=true from h1,show GL N pot=true from h2,show Lf N es fl pot=true from h3];rfl
theorem Ajo{N:Int}{es:List Ed}{fl pot:List Int}{k:Nat}(h:askN N es fl pot k=false)(hk:k<4:=by omega):FV N es fl pot=false:=by
 have:k=0\/k=1\/k=2\/k=3:=by omega
 unfold FV
 rcases this with rfl|rfl|rfl|rfl
 .rw[show CA N es=false from h];simp
 .rw[show Gs N es fl=false from h];simp
 .rw[show GL N pot=false from h];simp
 .rw[show Lf N es fl pot=false from h];simp
theorem Vz(N:Int)(a b p:Option Addr)(n c m d q r:Nat)(es:List Ed)(fl pot:List Int)(w:World)(R:Rd w a 4 CO es)(hn:es.length=n)(hN:I64 N)(Rf:Rd w b 1 I1 fl)(hm:fl.length=m)(hm2:m<=9223372036854775000)(Rp:Rd w p 1 I1 pot)(hq:pot.length=q)(hq2:q<=9223372036854775000) :
  Ret prog 118 #[Eo N a n c,Vy b p m d q r] w fun v w'=>v=.bool (FV N es fl pot)/\Ext [] w w':=by
 subst hn hm hq;obtain⟨w0,rfl,H⟩:=qE w;refine Au (fn:=f118) func118 U [Eo N a es.length c,Vy b p fl.length d pot.length r] U (Ae (Bu [.int .i64 N,.slice a es.length c] (.agg _) U U H ?_));rintro b2 w - H;refine Bu [.slice b fl.length d,.slice p pot.length r] (.agg _) U U H ?_;rintro b3 w - H;refine Ai U (qA (Ax (Ae (Cq [.pointer _] U (Cq [.pointer _,.pointer _] U (Cq [.pointer _,.pointer _] U (Cq [.pointer _,.pointer _] U (Ef [.func (.func 146) #[] #[ptr b2],.func (.func 147) #[] #[ptr b2,ptr b3],.func (.func 149) #[] #[ptr b2,ptr b3],.func (.func 151) #[] #[ptr b2,ptr b3]] Xt Amd zc_27 H ?_))))))));rintro b11 w - H
 refine Be Xt U (Af U (qA (A1 (Bw 2089040 (α:=Nat) (fun i=>[(13,.int .i64 (i:Int))]) (fun i w'=>i<=4/\Ctx w0 [] w' [(b11,Bl 27 [.func (.func 146) #[] #[ptr b2],.func (.func 147) #[] #[ptr b2,ptr b3],.func (.func 149) #[] #[ptr b2,ptr b3],.func (.func 151) #[] #[ptr b2,ptr b3]]),(b3,Bl 125 [.slice b fl.length d,.slice p pot.length r]),(b2,Bl 123 [.int .i64 N,.slice a es.length c])]/\∀k,k<i->askN N es fl pot k=true) (fun i=>4 - i) 0 U ?_ ?_ ?_))))
 .exact⟨rfl,trivial⟩
 .exact⟨qaq _,H,fun k h=>absurd h (qbd _)⟩
 .rintro i j w ⟨hi,H,hb⟩;refine Ae (Bm U U (qA (Ax (Aw _ U ?_ ?_))))
  .intro h2;replace h2:=AM h2;have KK:ChkK b2 b3 N a b p c d r es fl pot w:=⟨H.get at2,H.get at1,R.ext0 H.ext,Rf.ext0 H.ext,Rp.ext0 H.ext⟩
   obtain⟨f,ca,hfi,hcf,hret⟩:∃f ca,[Value.func (.func 146) #[] #[ptr b2],.func (.func 147) #[] #[ptr b2,ptr b3],.func (.func 149) #[] #[ptr b2,ptr b3],.func (.func 151) #[] #[ptr b2,ptr b3]][i]?=some (.func (.func f) #[] ca)/\Aq prog f=true/\Ret prog f ca w (fun v w'=>v=.bool (askN N es fl pot i)/\Ext [] w w'):=by
    have:i=0\/i=1\/i=2\/i=3:=by omega
    rcases this with rfl|rfl|rfl|rfl
    .exact⟨_,_,rfl,qB,Ajj KK hN⟩
    .exact⟨_,_,rfl,qB,Ajk KK hN hm2⟩
    .exact⟨_,_,rfl,qB,Ajl KK hq2⟩
    .exact⟨_,_,rfl,qB,Ajm KK hN (hb 0 (by omega)) (F7 (hb 1 (by omega))).1 (hb 2 (by omega))⟩
   refine Ay (Aa (Ax (A1 (Ae (Bp Xt Amd U U ?_)))));refine Bb Alx U ((by rw[Aj (H.get at0)];simpa using hfi)) ?_;refine Dd U (.func _ _ _) U (qA (Ae (C7 (.func _ _ _) U ?_)));refine G6 (l:=ca.toList) U hcf (by simpa using hret) (by simp) ?_;rintro v w ⟨rfl,hx18⟩;replace H:=H.call hx18;refine BP U (qA (Aw _ U ?_ ?_))
   .intro h3;replace h3:=BM h3;refine Ae (Ai U (qA (A5 (AF (Av (Av (AF (Av (AB (v:=(.bool _)) U U U ?_)))))))));exact⟨qaa Value.bool (by rw[Ajo (k:=i) (by simpa using h3)]),H.ext⟩
   .intro h3;replace h3:=BN h3;refine Ay (A8 (Aa (A0 (Az U U ?_))));refine Af U (qA ?_);refine⟨i+1,rfl,⟨rfl,trivial⟩,⟨by omega,H,fun k hk=>?_⟩,by omega⟩
    rcases qap k i with h7|h7
    .exact hb k h7
    .obtain rfl:k=i:=by omega
     simpa using h3
  .intro h2;replace h2:=AN h2;refine Bt (An (An (AK (Aa (Ae (Ai U (qA (A5 (AB (v:=(.bool _)) U U U ?_)))))))));exact⟨qaa Value.bool (by rw[Ajn fun k hk=>hb k (by omega)]),H.ext⟩
abbrev Tg:=Int × Nat
def lt7(x y:Tg):Prop:=x.1<y.1\/(x.1=y.1/\x.2<y.2)
instance (x y:Tg):Decidable (lt7 x y):=by unfold lt7;infer_instance
def le7(x y:Tg):Prop:=x.1<y.1\/(x.1=y.1/\x.2<=y.2)
theorem le7.trans{x y z:Tg}(h:le7 x y)(k:le7 y z):le7 x z:=by unfold le7 at *;omega
theorem lt7.le{x y:Tg}(h:lt7 x y):le7 x y:=by unfold lt7 at h;unfold le7;omega
theorem X3{x y:Tg}(h:¬lt7 y x):le7 x y:=by unfold lt7 at h;unfold le7;omega
def HeapL(L:List Tg):Prop:=∀i x y,0<i->L[i]?=some x->L[(i - 1) / 2]?=some y->le7 y x
def UpI(L:List Tg)(k:Nat):Prop :=
 (∀i x y,0<i->i≠k->L[i]?=some x->L[(i - 1) / 2]?=some y->le7 y x)/\∀c x y,0<k->0<c->(c - 1) / 2=k->L[c]?=some x->L[(k - 1) / 2]?=some y->le7 y x
def DownI(L:List Tg)(k:Nat):Prop :=
 (∀i x y,0<i->(i - 1) / 2≠k->L[i]?=some x->L[(i - 1) / 2]?=some y->le7 y x)/\∀c x y,0<k->0<c->(c - 1) / 2=k->L[c]?=some x->L[(k - 1) / 2]?=some y->le7 y x
theorem Hu{L:List Tg}{k o:Nat}{x y:Tg}(hx:L[k]?=some x)(hy:L[o]?=some y)(i:Nat):((L.set k y).set o x)[i]?=if i=o then some x else if i=k then some y else L[i]? := by
 have h1:k<L.length:=(qa8.1 hx).1;have h2:o<L.length:=(qa8.1 hy).1
 by_cases e:i=o
 .subst e;rw[if_pos rfl,qdw (by rw[qco];exact h2)]
 .rw[if_neg e,qb8 (Ne.symm e)]
  by_cases e2:i=k
  .subst e2;rw[if_pos rfl,qdw h1]
  .rw[if_neg e2,qb8 (Ne.symm e2)]
theorem UpI.done{L:List Tg}{k:Nat}(h:UpI L k)(h0:∀x y,0<k->L[k]?=some x->L[(k - 1) / 2]?=some y->le7 y x):HeapL L:=fun i x y hi hx hy=>by
 by_cases e:i=k
 .subst e;exact h0 x y hi hx hy
 .exact h.1 i x y hi e hx hy
theorem UpI.step{L:List Tg}{k:Nat}(h:UpI L k){x y:Tg}(hk:0<k)(hx:L[k]?=some x)(hy:L[(k - 1) / 2]?=some y)(hlt:lt7 x y):UpI ((L.set k y).set ((k - 1) / 2) x) ((k - 1) / 2):=by
 obtain⟨o,ho⟩:=qD ((k - 1) / 2);rw[<-ho]at hy |-;have hko:k≠o:=by omega
 refine⟨fun i a b hi hio ha hb=>?_,fun c a b h0 hc hco ha hb=>?_⟩
 .rw[Hu hx hy,if_neg hio]at ha;rw[Hu hx hy]at hb
  by_cases e:i=k
  .subst e;rw[if_pos rfl]at ha;rw[if_pos ho.symm]at hb;cases ha;cases hb;exact hlt.le
  .rw[if_neg e]at ha
   by_cases p1:(i - 1) / 2=o
   .rw[if_pos p1]at hb;cases hb;exact hlt.le.trans (h.1 i a y hi e ha (by rw[p1];exact hy))
   .rw[if_neg p1]at hb
    by_cases p2:(i - 1) / 2=k
    .rw[if_pos p2]at hb;cases hb;exact h.2 i a _ hk hi p2 ha (by rw[<-ho];exact hy)
    .rw[if_neg p2]at hb;exact h.1 i a b hi e ha hb
 .rw[Hu hx hy,if_neg (by omega:c≠o)]at ha;rw[Hu hx hy,if_neg (by omega:(o - 1) / 2≠o),if_neg (by omega:(o - 1) / 2≠k)]at hb;have hz:=h.1 o y b h0 (Ne.symm hko) hy hb
  by_cases e:c=k
  .rw[if_pos e]at ha;cases ha;exact hz
  .rw[if_neg e]at ha;exact hz.trans (h.1 c a y hc e ha (by rw[hco];exact hy))
theorem DownI.none{L:List Tg}{k:Nat}(h:DownI L k)(hn:L.length<=2*k+1):HeapL L:=fun i x y hi hx hy=>by
 have hil:i<L.length:=(qa8.1 hx).1;exact h.1 i x y hi (by omega) hx hy
def X4(L:List Tg)(k o:Nat)(y:Tg):Prop:=(o=2*k+1\/o=2*k+2)/\L[o]?=some y/\∀i z,(i - 1) / 2=k->0<i->L[i]?=some z->le7 y z
theorem DownI.done{L:List Tg}{k o:Nat}{x y:Tg}(h:DownI L k)(hx:L[k]?=some x)(hl:X4 L k o y)(hn:¬lt7 y x):HeapL L:=fun i a b hi ha hb=>by
 by_cases e:(i - 1) / 2=k
 .rw[e,hx]at hb;cases hb;exact(X3 hn).trans (hl.2.2 i a e hi ha)
 .exact h.1 i a b hi e ha hb
theorem DownI.step{L:List Tg}{k o:Nat}{x y:Tg}(h:DownI L k)(hx:L[k]?=some x)(hl:X4 L k o y)(hlt:lt7 y x):DownI ((L.set k y).set o x) o:=by
 obtain⟨ho,hy,hmin⟩:=hl;have hko:k≠o:=by omega
 have hpo:(o - 1) / 2=k:=by omega
 refine⟨fun i a b hi hio ha hb=>?_,fun c a b h0 hc hco ha hb=>?_⟩
 .rw[Hu hx hy,if_neg hio]at hb;rw[Hu hx hy]at ha
  by_cases p:(i - 1) / 2=k
  .rw[if_pos p]at hb;cases hb
   by_cases e:i=o
   .rw[if_pos e]at ha;cases ha;exact hlt.le
   .rw[if_neg e,if_neg (by omega:i≠k)]at ha;exact hmin i a p hi ha
  .rw[if_neg p]at hb;rw[if_neg (by omega:i≠o)]at ha
   by_cases e:i=k
   .rw[if_pos e]at ha;cases ha;subst e;exact h.2 o _ b hi (by omega) hpo hy hb
   .rw[if_neg e]at ha;exact h.1 i a b hi p ha hb
 .rw[Hu hx hy,if_neg (by omega:c≠o),if_neg (by omega:c≠k)]at ha;rw[Hu hx hy,hpo,if_neg hko,if_pos rfl]at hb;cases hb;exact h.1 c a _ hc (by omega) ha (by rw[hco];exact hy)
theorem HeapL.root{L:List Tg}(h:HeapL L){r:Tg}(hr:L[0]?=some r):∀(i:Nat) (x:Tg),L[i]?=some x->le7 r x:=fun i=>by
 induction i using Nat.strongRecOn with
 |_ i ih =>
  intro x hx
  by_cases e:i=0
  .subst e;rw[hr]at hx;cases hx;exact .inr ⟨rfl,qam _⟩
  .have hil:i<L.length:=(qa8.1 hx).1;obtain⟨y,hy⟩:∃y,L[(i - 1) / 2]?=some y:=⟨_,qbl (by omega)⟩;exact(ih _ (by omega) y hy).trans (h i x y (by omega) hx hy)
theorem HeapL.snoc{L:List Tg}(h:HeapL L)(z:Tg):UpI (L++[z]) L.length:=by
 have hg:∀(i:Nat) (x:Tg),i≠L.length->(L++[z])[i]?=some x->L[i]?=some x:=fun i x hi hx=>by
  have hil:i<(L++[z]).length:=(qa8.1 hx).1;rw[qat,qb9]at hil
  rwa [qcb (by omega)]at hx
 refine⟨fun i x y hi hn hx hy=>?_,fun c x y h0 hc hco hx hy=>?_⟩
 .have h1:=hg i x hn hx;have hil:i<L.length:=(qa8.1 h1).1;exact h i x y hi h1 (hg _ y (by omega) hy)
 .have hil:c<(L++[z]).length:=(qa8.1 hx).1;rw[qat,qb9]at hil;omega
theorem HeapL.cut{x z:Tg}{L:List Tg}(h:HeapL (x::L)):DownI (((x::L).set 0 z).take L.length) 0:=by
 have hg:∀(i:Nat) (a:Tg),0<i->(((x::L).set 0 z).take L.length)[i]?=some a->(x::L)[i]?=some a:=fun i a hi ha=>by
  rw[qb5]at ha
  split at ha
  .rwa [qb8 (by omega)]at ha
  .cases ha
 exact⟨fun i a b hi hn ha hb=>h i a b hi (hg i a hi ha) (hg _ b (by omega) hb),fun c a b h0=>absurd h0 (Nat.lt_irrefl 0)⟩
theorem Fi{α:Type}{enc:α->List Value}{s:Nat}:∀{L:List α},(∀x∈L,(enc x).length=s)->(L.flatMap enc).length=L.length*s
 | [],_=>by simp
 |x::L,h=>by
  rw[qbz,qat,h x (qak ..),Fi fun y hy=>h y (qaj _ hy),qa9,qbj,Nat.one_mul,qcy]
theorem Sz{α:Type}{L:List α}{i:Nat}{x:α}(hx:L[i]?=some x)(y:α):L=L.take i++x::L.drop (i+1)/\L.set i y=L.take i++y::L.drop (i+1):=by
 have hi:=CD hx;have hg:L[i]=x:=by rw[qbl hi]at hx;exact qag hx
 refine⟨?_,?_⟩
 .rw[<-hg,<-qdc hi,qbq]
 .rw[List.set_eq_take_append_cons_drop,if_pos hi]
theorem Ae7{α:Type}{enc:α->List Value}{s:Nat}{L:List α}(hs:∀x∈L,(enc x).length=s){i:Nat}{x y:α}(hx:L[i]?=some x)(hy:(enc y).length=s)(r:List Value):over (L.flatMap enc++r) (i*s) (enc y)=(L.set i y).flatMap enc++r:=by
 obtain⟨h1,h2⟩:=Sz hx y;have hi:=CD hx;have hl:((L.take i).flatMap enc).length=i*s:=by rw[Fi fun z hz=>hs z (qea hz),qbb,qcg (by omega)]
 rw[h2]
 conv=>lhs;rw[h1]
 rw[qbt,qbt,qbz,qbz,qas,qas,<-hl,Acz _ _ _ _ (by rw[hs x (qac hx),hy])];simp only[qas]
theorem Ajp{α:Type}{enc:α->List Value}{s:Nat}{L:List α}(hs:∀x∈L,(enc x).length=s){i j:Nat}{x y:α}{v:Value}(hx:L[i]?=some x)(hj:j<s)(hy:enc y=(enc x).set j v)(r:List Value):(L.flatMap enc++r).set (i*s+j) v=(L.set i y).flatMap enc++r:=by
 obtain⟨h1,h2⟩:=Sz hx y;have hi:=CD hx;have hl:((L.take i).flatMap enc).length=i*s:=by rw[Fi fun z hz=>hs z (qea hz),qbb,qcg (by omega)]
 have hxl:=hs x (qac hx);rw[h2]
 conv=>lhs;rw[h1]
 rw[qbt,qbt,qbz,qbz,qas,qas,<-hl,List.set_append_right _ _ (by omega),Nat.add_sub_cancel_left,qas,qas,List.set_append_left _ _ (by omega),hy]
theorem OS.over{α:Type}{a:Option Addr}{n c s:Nat}{full:List Value}{enc:α->List Value}{L:List α}(O:OS a n c s full (L.flatMap enc))(hs:∀x,(enc x).length=s){i:Nat}{x:α}(hx:L[i]?=some x)(y:α):OS a n c s (over full (i*s) (enc y)) ((L.set i y).flatMap enc):=by
 refine⟨O.zero,O.none',by rw[DF];exact O.len,O.le,?_⟩;rw[O.split,Ae7 (fun z _=>hs z) hx (hs y)];have h1:=O.llen;rw[Fi fun z _=>hs z]at h1;exact qch (by rw[Fi fun z _=>hs z,qco,h1])
theorem NP{α:Type}{L:List α}{i j:Nat}{x y:α}(hx:L[i]?=some x)(hy:L[j]?=some y):((L.set i y).set j x).Perm L:=by
 obtain⟨hi,rfl⟩:=qa8.1 hx;obtain⟨hj,rfl⟩:=qa8.1 hy;exact List.set_set_perm hi hj
def Fj(x:Int × Nat):List Value:=[.int .i64 x.1,.int .i64 (x.2:Int)]
theorem Jz(x:Int × Nat):∀v∈Fj x,AY v=true:=fun v hv=>by
 simp only[Fj,qai,qau,or_false]at hv
 rcases hv with rfl|rfl <;> rfl
theorem Q9(x y:Int × Nat)(w:World):Ret prog 221 #[.agg (Fj x).toArray,.agg (Fj y).toArray] w fun v w'=>v=.bool (decide (lt7 x y))/\Ext [] w w':=by
 obtain⟨w0,rfl,H⟩:=qE w;refine Au (fn:=f221) func221 U [.agg (Fj x).toArray,.agg (Fj y).toArray] U (Ae (Bu (Fj x) (.agg _) U U H ?_));rintro b2 w - H;refine Bu (Fj y) (.agg _) U U H ?_;rintro b3 w - H;refine Ai U (qA (Ae (Ah KT U (AG B4 U H at1 U (Ah KT U (AG B4 U H at0 U (Bm U U (A2 U (AR 10 U ?_ ?_)))))))))
 .intro h1;replace h1:=AM h1;refine Ag U (Ag U (Ag U (Ag U (Ag U (Ag U (Ag U (Ag U (Ag U (Ag U ?_)))))))));refine Ag U (Ag U (AA U (.bool _) U (Ai U (qA (A5 (AB (v:=(.bool _)) U U U ?_))))));exact⟨qaa Value.bool (by unfold lt7;rw[qad];simp_all;try omega),H.ext⟩
 .intro h2;replace h2:=AN h2;refine Ah KT U (AG B4 U H at1 U (Ah KT U (AG B4 U H at0 U (C3 U U (A2 U (AR 16 U ?_ ?_))))))
  .intro h3;replace h3:=AM h3;refine Ah Qy U (AG Cc U H at1 U (Ah Qy U (AG Cc U H at0 U (Bm U U (AA U (.bool _) U (AJ U (.bool _) U (Ai U (qA (A5 (AB (v:=(.bool _)) U U U ?_))))))))));exact⟨qaa Value.bool (by unfold lt7;rw[qad];simp_all;try omega),H.ext⟩
  .intro h4;replace h4:=AN h4;refine Ag U (Ag U (Ag U (Ag U (Ag U (AJ U (.bool _) U (AJ U (.bool _) U (Ai U (qA (A5 (AB (v:=(.bool _)) U U U ?_))))))))));exact⟨qaa Value.bool (by unfold lt7;rw[qad];simp_all;try omega),H.ext⟩
theorem adr0(q:Nat):(adr (some ⟨q,0,none⟩)).off=0:=rfl
abbrev HB(bh:Nat)(a:Option Addr)(n c:Nat)(full:List Value):List (Nat × Obj):=(bh,Bl 291 [.slice a n c])::ent a 294 full
theorem up_ok{w:World}{bh q n c:Nat}{full:List Value}{L:List (Int × Nat)}(H0:Ctx w [bh,q] w (HB bh (some ⟨q,0,none⟩) n c full))(O:OS (some ⟨q,0,none⟩) n c 2 full (L.flatMap Fj))(k:Nat)(hk:k<n)(hn:n<=1000000000)(hU:UpI L k) :
  Ret prog 220 #[ptr bh,.int .i64 (k:Int)] w fun v w'=>v=.tuple #[]/\∃(L':List (Int × Nat)) (full':List Value),L'.Perm L/\HeapL L'/\OS (some ⟨q,0,none⟩) n c 2 full' (L'.flatMap Fj)/\Ctx w [bh,q] w' (HB bh (some ⟨q,0,none⟩) n c full'):=by
 obtain⟨w0,rfl⟩:=qD w;have H:=H0;refine Au (fn:=f220) func220 U [.pointer (some ⟨bh,0,none⟩),.int .i64 (k:Int)] U ?_;refine Tz (Ax (Ty (Aa (A1 (Bw 9007199254740978 (α:=Nat × List (Int × Nat) × List Value) (fun s=>[(1,.int .i64 (s.1:Int))]) (fun s w'=>s.1<n/\s.2.1.Perm L/\UpI s.2.1 s.1/\OS (some ⟨q,0,none⟩) n c 2 s.2.2 (s.2.1.flatMap Fj)/\Ctx w0 [bh,q] w' (HB bh (some ⟨q,0,none⟩) n c s.2.2)) (fun s=>s.1) (k,L,full) U ?_ ?_ ?_)))))
 .exact⟨rfl,trivial⟩
 .exact⟨hk,.refl _,hU,O,H⟩
 .rintro⟨k,L',f'⟩ j w ⟨hk,hp,hU,O,H⟩;dsimp only at hk hp hU O H;dsimp only;have hnum:n=L'.length:=O.numN (fun _ _=>rfl) (by decide);refine Ax (Ae (Af U (C8 U U (qA (Aw _ U ?_ ?_)))))
  .intro h1;replace h1:=AM h1;obtain⟨o,ho⟩:=qD ((k - 1) / 2);obtain⟨x,hxk⟩:=AE (l:=L') (i:=k);obtain⟨y,hyo⟩:=AE (l:=L') (i:=o);have Rk:=O.rd (w:=w.drew) (t:=294) (fun y hy=>H.drew.blk y (qaj _ hy)) (fun _ _=>rfl) (by decide);refine Ay (Aa (A1 (Ae (Af U (Bo U U ?_)))));refine KC U U (show _<=(9223372036854775807:Int)by omega) ?_;rw[show((k:Int) - 1) / 2=(o:Int)by omega];refine Ad U (qA (Ax (Ej 14 Br U U ?_)));refine BE U (AZ U (A6 CH U (Cj DW U (by rintro _ rfl;exact H.drew) at0 U ?_)));refine AX U (BL Rk DG Db U U (by omega) ?_);refine G8 _ Ir Db U U (by rintro _ rfl;exact(Rk.row hxk rfl)) ?_;refine BE U (AZ U (A6 CH U (Cj DW U (by rintro _ rfl;exact H.drew) at0 U ?_)))
   refine AX U (BL Rk DG Db U U (by omega) ?_);refine G8 _ Ir Db U U (by rintro _ rfl;exact(Rk.row hyo rfl)) ?_;refine BS ?_;replace H:=H.drew;refine Al qB (Q9 x y _) U ?_;rintro v w ⟨rfl,hx24⟩;replace H:=H.call hx24;refine BP U (qA (Aw _ U ?_ ?_))
   .intro h2;replace h2:=BM h2;refine Bt (An (FG U (An (AK (MD (CV U U ?_))))));have hnl:¬lt7 x y:=by simpa using h2
    exact⟨rfl,L',f',hp,hU.done fun a b _ ha hb=>by
     rw[hxk]at ha;rw[<-ho,hyo]at hb;cases ha;cases hb
     exact X3 hnl,O,H⟩
   .intro h2;replace h2:=BN h2;obtain⟨w7,rfl⟩:=qD w;have R7:=O.rd (w:=w7.drew) (t:=294) (fun y hy=>H.drew.blk y (qaj _ hy)) (fun _ _=>rfl) (by decide);have hol:=O.len;have hole:=O.le;refine Ay (Aa (Ck [([0,1,2,3,4,5,6,7,8,9,10,11,12,13,14,15,16,17,18,19,20,21,22,23,24],25),([26],27)] (fun z=>z=World.drew w7) [25,27] Br (rfl) ?_));refine AD U U (BG U (Ba U (Ao CH U (LR DW U (by rintro _ rfl;exact H.drew) at0 U ?_))));refine Bj U (BG U (Ba U (Ao CH U (LR DW U (by rintro _ rfl;exact H.drew) at0 U ?_))));refine Bj U (BG U (Ba U (Ao CH U (LR DW U (by rintro _ rfl;exact H.drew) at0 U ?_))));refine Bj U (DL R7 DG Db U U ?_);refine G9 _ Ir Db U U (fun _ hx=>(by subst hx;exact R7.row hyo rfl)) ?_
    refine BG U (Ba U (Ao CH U (LR DW U (by rintro _ rfl;exact H.drew) at0 U ?_)));refine Bj U (DL R7 DG Db U U ?_);refine G9 _ Ir Db U U (fun _ hx=>(by subst hx;exact R7.row hxk rfl)) ?_;refine DL R7 DG Db U U (AU ?_);replace H:=H.drew;refine HX (vs:=Fj y) U Db U U U (Jz y) H at1 (by show 0+(k:Int).toNat*2+2<=_;omega) ?_;rintro w H;refine Ab (Bz U (AD U U ?_));refine DL R7 DG Db U U (AU (HX (vs:=Fj x) U Db U U U (Jz x) H at1 (by rw[DF];show 0+(o:Int).toNat*2+2<=_;omega) ?_));rintro w H;refine Ab (Bz U (BF (A0 (Af U (Ad U (Ab (A8 (Aa ?_))))))));have hne:k≠o:=by omega
    refine⟨(o,(L'.set k y).set o x,over (over f' (k*2) (Fj y)) (o*2) (Fj x)),rfl,⟨rfl,trivial⟩,⟨by dsimp only;omega,(NP hxk hyo).trans hp,by dsimp only;rw[ho];exact hU.step (by omega) hxk (by rw[<-ho];exact hyo) (by simpa using h2),OS.over (OS.over O (fun _=>rfl) hxk y) (fun _=>rfl) (by rw[qb8 hne];exact hyo) x,?_⟩,by dsimp only;omega⟩;simp only[adr0,qbg,qaz]at H;exact H
  .intro h1;replace h1:=AN h1;refine Bt (An (An (AK (MD (CV U U ?_)))));exact⟨rfl,L',f',hp,hU.done fun a b h0=>absurd h0 (by omega),O,H⟩
theorem Ajq{w:World}{bh q n c:Nat}{full:List Value}{L:List (Int × Nat)}(H0:Ctx w [bh,q] w (HB bh (some ⟨q,0,none⟩) n c full))(O:OS (some ⟨q,0,none⟩) n c 2 full (L.flatMap Fj))(hD:DownI L 0)(hn:n<=1000000000:=by omega):
  Ret prog 215 #[ptr bh,.int .i64 0] w fun v w'=>v=.tuple #[]/\∃(L':List (Int × Nat)) (full':List Value),L'.Perm L/\HeapL L'/\OS (some ⟨q,0,none⟩) n c 2 full' (L'.flatMap Fj)/\Ctx w [bh,q] w' (HB bh (some ⟨q,0,none⟩) n c full'):=by
 obtain⟨w0,rfl⟩:=qD w;have H:=H0;refine Au (fn:=f215) func215 U [.pointer (some ⟨bh,0,none⟩),.int .i64 0] U ?_;refine Tz (Ax (Ty (Aa (A1 (Bw 77371252455336267181195250 (α:=Nat × List (Int × Nat) × List Value) (fun s=>[(1,.int .i64 (s.1:Int))]) (fun s w'=>s.1<=n/\s.2.1.Perm L/\DownI s.2.1 s.1/\OS (some ⟨q,0,none⟩) n c 2 s.2.2 (s.2.1.flatMap Fj)/\Ctx w0 [bh,q] w' (HB bh (some ⟨q,0,none⟩) n c s.2.2)) (fun s=>n - s.1) (0,L,full) U ?_ ?_ ?_)))))
 .exact⟨rfl,trivial⟩
 .exact⟨qaq _,.refl _,hD,O,H⟩
 .rintro⟨k,L',f'⟩ j w ⟨hk,hp,hD,O,H⟩;dsimp only at hk hp hD O H;dsimp only;have hnum:n=L'.length:=O.numN (fun _ _=>rfl) (by decide);have hol:=O.len;have hole:=O.le;obtain⟨m,hm⟩:=qD (2*k+1);refine A1 (Ae (Af U (D0 U U ?_)));refine Az U U ?_;rw[show(2*(k:Int)+1)=(m:Int)by omega];refine Ad U (qA (Ax (Ae (Af U (A4 U (A9 U (Ah CH U (AG DW U H at0 U (Be DG U ?_)))))))));refine CM U U (qA (Aw _ U ?_ ?_))
  .intro h1;replace h1:=AM h1;refine Bt (An (FG U (An (AK (MD (CV U U ?_))))));exact⟨rfl,L',f',hp,hD.none (by omega),O,H⟩
  .intro h1;replace h1:=AN h1;obtain⟨x,hxm⟩:=AE (l:=L') (i:=m);refine Ay (Aa (Ax (DV 2199023222784 (α:=Bool) (fun z=>[(40,.bool z)]) (fun z w'=>(z=true->∃y,L'[m+1]?=some y/\lt7 y x)/\(z=false->∀y,L'[m+1]?=some y->¬lt7 y x)/\Ctx w0 [bh,q] w' (HB bh (some ⟨q,0,none⟩) n c f')) U ?_ ?_)))
   .skip
    have Rk:=O.rd (w:=w.drew) (t:=294) (fun y hy=>H.drew.blk y (qaj _ hy)) (fun _ _=>rfl) (by decide)
    obtain⟨y,hy7⟩:∃y,m+1<n->L'[m+1]?=some y:=by
     by_cases h:m+1<n
     .obtain⟨y,hy⟩:=AE (l:=L') (i:=m+1);exact⟨y,fun _=>hy⟩
     .exact⟨x,fun h'=>absurd h' h⟩
    refine Gm 24 Br U U (AX U (D4 U U ?_));refine BE U (AZ U (A6 CH U (Cj DW U (by rintro _ rfl;exact H.drew) at0 U ?_)));refine Alt U DG U (LO U U (CW U (DK 23 U ?_ ?_)))
    .intro h2;replace h2:=AM h2;refine BE U (AZ U (A6 CH U (Cj DW U (by rintro _ rfl;exact H.drew) at0 U ?_)));refine AX U (D4 U U ?_);refine BL Rk DG Db U U (by omega) ?_;refine G8 _ Ir Db U U (by rintro _ rfl;exact(Rk.row (hy7 (by omega)) rfl)) ?_;refine BE U (AZ U (A6 CH U (Cj DW U (by rintro _ rfl;exact H.drew) at0 U ?_)));refine AX U (BL Rk DG Db U U (by omega) ?_);refine G8 _ Ir Db U U (by rintro _ rfl;exact(Rk.row hxm rfl)) ?_;refine BS ?_;replace H:=H.drew;refine Al qB (Q9 y x _) U ?_;rintro v w ⟨rfl,hx39⟩;replace H:=H.call hx39;refine AA U (.bool _) U (qA ?_)
     exact⟨decide (lt7 y x),rfl,⟨rfl,trivial⟩,fun h=>⟨y,hy7 (by omega),qba h⟩,fun h z hz=>by
      rw[hy7 (by omega)]at hz;cases hz
      exact qbn h,H⟩
    .intro h2;replace h2:=AN h2;refine A3 U (A3 U (A3 U (A3 U (A3 U (A3 U (A3 U (A3 U (A3 U (A3 U ?_)))))))));refine A3 U (A3 U (A3 U (A3 U (A3 U (BS ?_)))));replace H:=H.drew;refine Ag U (AJ U (.bool _) U (qA ?_));exact⟨false,rfl,⟨rfl,trivial⟩,(fun h=>by cases h),(fun _ z hz=>by have:=CD hz;omega),H⟩
   .rintro z j2 w ⟨hzt,hzf,H⟩;refine Gi 6597069766672 (α:=Nat) (fun z=>[(4,.int .i64 (z:Int))]) (fun z w'=>(∃y,X4 L' k z y)/\Ctx w0 [bh,q] w' (HB bh (some ⟨q,0,none⟩) n c f')) U ?_ ?_
    .skip
     refine Aw _ U ?_ ?_
     .intro h2;obtain⟨y,hy,hlt⟩:=hzt h2;have hz':=CD hy;refine A0 (Af U (Az U U ?_));refine Ad U (qA ?_);refine⟨m+1,rfl,⟨rfl,trivial⟩,⟨y,.inr (by omega),hy,fun i a hi h0 ha=>?_⟩,H⟩;have:i=m\/i=m+1:=by omega
      rcases this with rfl|rfl
      .rw[hxm]at ha;cases ha;exact hlt.le
      .rw[hy]at ha;cases ha;exact .inr ⟨rfl,qam _⟩
     .intro h2;refine Ay (Aa ?_);refine⟨m,rfl,⟨rfl,trivial⟩,⟨x,.inl (by omega),hxm,fun i a hi h0 ha=>?_⟩,H⟩;have:i=m\/i=m+1:=by omega
      rcases this with rfl|rfl
      .rw[hxm]at ha;cases ha;exact .inr ⟨rfl,qam _⟩
      .exact X3 (hzf h2 a ha)
    .rintro o j3 w ⟨⟨y,hl2⟩,H⟩;obtain⟨x,hxk⟩:=AE (l:=L') (i:=k);have hyo:=hl2.2.1;have hon:=CD hyo;have hko:k<o:=by have:=hl2.1;omega
     have Rk:=O.rd (w:=w.drew) (t:=294) (fun y hy=>H.drew.blk y (qaj _ hy)) (fun _ _=>rfl) (by decide);refine Ax (Ej 14 Br U U ?_);refine BE U (AZ U (A6 CH U (Cj DW U (by rintro _ rfl;exact H.drew) at0 U ?_)));refine AX U (BL Rk DG Db U U (by omega) ?_);refine G8 _ Ir Db U U (by rintro _ rfl;exact(Rk.row hyo rfl)) ?_;refine BE U (AZ U (A6 CH U (Cj DW U (by rintro _ rfl;exact H.drew) at0 U ?_)));refine AX U (BL Rk DG Db U U (by omega) ?_);refine G8 _ Ir Db U U (by rintro _ rfl;exact(Rk.row hxk rfl)) ?_;refine BS ?_;replace H:=H.drew;refine Al qB (Q9 y x _) U ?_;rintro v w ⟨rfl,hx57⟩;replace H:=H.call hx57;refine BP U (qA (Aw _ U ?_ ?_))
     .intro h2;replace h2:=BM h2;refine Bt (An (FG U (An (AK (MD (CV U U ?_))))));exact⟨rfl,L',f',hp,hD.done hxk hl2 (by simpa using h2),O,H⟩
     .intro h2;replace h2:=BN h2;obtain⟨w7,rfl⟩:=qD w;have R7:=O.rd (w:=w7.drew) (t:=294) (fun y hy=>H.drew.blk y (qaj _ hy)) (fun _ _=>rfl) (by decide);refine Ay (Aa (Ck [([0,1,2,3,4,5,6,7,8,9,10,11,12,13,14,15,16,17,18,19,20,21,22,23,24],25),([26],27)] (fun z=>z=World.drew w7) [25,27] Br (rfl) ?_));refine AD U U (BG U (Ba U (Ao CH U (LR DW U (by rintro _ rfl;exact H.drew) at0 U ?_))));refine Bj U (BG U (Ba U (Ao CH U (LR DW U (by rintro _ rfl;exact H.drew) at0 U ?_))));refine Bj U (BG U (Ba U (Ao CH U (LR DW U (by rintro _ rfl;exact H.drew) at0 U ?_))));refine Bj U (DL R7 DG Db U U ?_);refine G9 _ Ir Db U U (fun _ hx=>(by subst hx;exact R7.row hyo rfl)) ?_;refine BG U (Ba U (Ao CH U (LR DW U (by rintro _ rfl;exact H.drew) at0 U ?_)))
      refine Bj U (DL R7 DG Db U U ?_);refine G9 _ Ir Db U U (fun _ hx=>(by subst hx;exact R7.row hxk rfl)) ?_;refine DL R7 DG Db U U (AU ?_);replace H:=H.drew;refine HX (vs:=Fj y) U Db U U U (Jz y) H at1 (by show 0+(k:Int).toNat*2+2<=_;omega) ?_;rintro w H;refine Ab (Bz U (AD U U ?_));refine DL R7 DG Db U U (AU (HX (vs:=Fj x) U Db U U U (Jz x) H at1 (by rw[DF];show 0+(o:Int).toNat*2+2<=_;omega) ?_));rintro w H;refine Ab (Bz U (BF (A0 (Af U (Ad U (Ab (A8 (Aa ?_))))))));have hne:k≠o:=by omega
      refine⟨(o,(L'.set k y).set o x,over (over f' (k*2) (Fj y)) (o*2) (Fj x)),rfl,⟨rfl,trivial⟩,⟨by dsimp only;omega,(NP hxk hyo).trans hp,hD.step hxk hl2 (by simpa using h2),OS.over (OS.over O (fun _=>rfl) hxk y) (fun _=>rfl) (by rw[qb8 hne];exact hyo) x,?_⟩,by dsimp only;omega⟩;simp only[adr0,qbg,qaz]at H;exact H
theorem Ajr(w:World):Ret prog 194 #[] w fun v w'=>∃b,v=ptr b/\w.heap.size<=b/\w'.heap[b]?=some (Bl 291 [.slice none 0 0])/\Ext [] w w':=by
 obtain⟨w0,rfl,H⟩:=qE w;refine Au (fn:=f194) func194 U [] U (Ae (Cn U (qA (Ae (BA [.slice none 0 0] Apv Ap7 ?_)))));refine Bu [.slice none 0 0] (.agg _) U U H ?_;rintro b2 w - H;refine Cn U (qA (A5 (AB (v:=(.pointer _)) U U U ?_)));exact⟨b2,rfl,(H.own _ (qak ..)).elim (fun h=>by cases h) id,H.get at0,H.ext⟩
theorem Ajs{w:World}{bh:Nat}{a:Option Addr}{n c:Nat}(hb:w.heap[bh]?=some (Bl 291 [.slice a n c])):Ret prog 196 #[ptr bh] w fun v w'=>v=.int .i64 (n:Int)/\w=w':=by
 obtain⟨w0,rfl⟩:=qD w;refine Au (fn:=f196) func196 U [.pointer (some ⟨bh,0,none⟩)] U ?_;refine Ae (Ad U (qA (Ax (Ae (A4 U (Cw Xv U ?_))))));refine qA (Aw _ U ?_ ?_)
 .intro h1;cases h1
 .intro h1;refine Ay (Aa (Ae (A4 U (A9 U (Ah CH U (Bb DW U ((by rw[Aj hb];rfl)) ?_))))));refine Be DG U (Ad U (qA (A5 (AB (v:=(.int _ _)) U U U ?_))));exact⟨rfl,rfl⟩
theorem Ajt{w:World}{bh:Nat}{a:Option Addr}{n c:Nat}{x:Int × Nat}{L:List (Int × Nat)}(hb:w.heap[bh]?=some (Bl 291 [.slice a n c]))(R:Rd w a 2 Fj (x::L))(hn:n=L.length+1):Ret prog 214 #[ptr bh] w fun v w'=>v=.tuple #[.int .i64 x.1,.int .i64 (x.2:Int),.int .i64 0]/\Ext [] w w':=by
 obtain⟨w0,rfl,H⟩:=qE w;have hbd:w0.drew.heap[bh]?=some (Bl 291 [.slice a n c]):=hb;have Rd':=R.ext0 (Ext.drew [] w0);refine Au (fn:=f214) func214 U [.pointer (some ⟨bh,0,none⟩)] U ?_;refine Ae (Ad U (Ad U (Ad U (qA (Ax (A1 (Ae (A4 U (Cw Xv U ?_)))))))));refine Ai U (qA (Aw _ U ?_ ?_))
 .intro h1;cases h1
 .intro h1;refine Ae (A4 U (A9 U (Ah CH U (Bb DW U ((by rw[Aj hb];rfl)) ?_))));refine Be DG U (C3 U U (Ai U (qA (Aw _ U ?_ ?_))))
  .intro h2;replace h2:=AM h2;omega
  .intro h2;replace h2:=AN h2;refine Ay (A8 (Aa (DT (fun x=>x=_) Br U ?_)));refine BE U (AZ U (A6 CH U (BX DW U (by rintro _ rfl;exact((by rw[Aj hbd];rfl))) ?_)));refine BL Rd' DG Db U U (by omega) ?_;refine A6 KT U (BX B4 U (by rintro _ rfl;exact((Rd'.fld (i:=0) rfl rfl (j:=0) rfl))) ?_);refine BE U (AZ U (A6 CH U (BX DW U (by rintro _ rfl;exact((by rw[Aj hbd];rfl))) ?_)));refine BL Rd' DG Db U U (by omega) ?_;refine A6 Qy U (BX Cc U (by rintro _ rfl;exact((Rd'.fld (i:=0) rfl rfl (j:=1) rfl))) ?_);refine Dv U (Dv U (Dv U (BS ?_)));rintro _ rfl;replace H:=H.drew;refine A5 (Io (v1:=(.int _ _)) (v2:=(.int _ _)) (v3:=(.int _ _)) U U U U U ?_);exact⟨rfl,H.ext⟩
theorem YN{w:World}{bh n c:Nat}{a:Option Addr}{full:List Value}{L:List (Int × Nat)}(H0:Ctx w ((HB bh a n c full).map (·.1)) w (HB bh a n c full))(O:OS a n c 2 full (L.flatMap Fj))(hH:HeapL L)(key:Int)(item:Nat)(hn:n<=100000000:=by omega):
  Ret prog 213 #[ptr bh,.int .i64 key,.int .i64 (item:Int)] w fun v w'=>v=.int .i64 0/\∃(a':Option Addr) (c':Nat) (full':List Value) (L':List (Int × Nat)),L'.Perm ((key,item)::L)/\HeapL L'/\OS a' (n+1) c' 2 full' (L'.flatMap Fj)/\Ctx w ((HB bh a n c full).map (·.1)) w' (HB bh a' (n+1) c' full'):=by
 obtain⟨w0,rfl⟩:=qD w;have H:=H0;refine Au (fn:=f213) func213 U [.pointer (some ⟨bh,0,none⟩),.int .i64 key,.int .i64 (item:Int)] U ?_;refine Ae (Ad U (qA (Ax (Ae (A4 U (Cw Xv U ?_))))));refine qA (Aw _ U ?_ ?_)
 .intro h1;cases h1
 .intro h1;refine Ay (Aa (Ae (A4 U (A4 U (A9 U (Ah CH U (AG DW U H at0 U (Af U (Af U (BA (Fj (key,item)) Apw Xw ?_))))))))));refine Cp (Fj (key,item)) (.agg _) DG Db Xw U U U U H ?_;rintro b17 w - H;refine Cy (L:=[(bh,_)]) DG DG Db Ana Xw U U U H O U (Jz _) ?_;rintro a18 c18 f18 w H O18;have O8:OS a18 (n+1) c18 2 f18 ((L++[(key,item)]).flatMap Fj):=by rw[qbt];simpa using O18
  refine A9 U (Ah CH U (Cb (.slice _ _ _) Aeo U U U H at0 (by(simp;done)) ?_));rintro w H;refine qA (Ae (A4 U (A4 U (A9 U (Ah CH U (AG DW U H at0 U (Be DG U (Bo U U ?_))))))));rw[show(((n+1:Nat):Int) - 1)=(n:Int)by omega];obtain⟨q,rfl⟩:=O8.form (by omega);refine Al qB (up_ok (Ctx.lend (L2:=[]) H.app_nil) O8 n (by omega) (by omega) (by have hnum:n=L.length:=O.numN (fun _ _=>rfl) (by decide);rw[hnum];exact hH.snoc _)) U ?_;rintro v w ⟨rfl,L',f',hp,hH',O',H'⟩;replace H:=(Ctx.back (L2:=[]) H.app_nil H').nil_app;refine qA (Ae (Ad U (qA (A5 (AB (v:=(.int _ _)) U U U ?_)))));exact⟨rfl,some ⟨q,0,none⟩,c18,f',L',hp.trans (qex _ _),hH',O',H⟩
theorem OS.short{α:Type}{a:Option Addr}{n c s:Nat}{full:List Value}{enc:α->List Value}{L:List α}(O:OS a n c s full (L.flatMap enc))(hs:∀x,(enc x).length=s){m:Nat}(hm:m<=n):OS a m c s full ((L.take m).flatMap enc):=by
 refine⟨O.zero,O.none',O.len,qa6 hm O.le,?_⟩;have h1:=O.pre;have h2:full.take (m*s)=(full.take (n*s)).take (m*s):=by rw[List.take_take,qcg (qcc _ hm)]
 have hl:=O.llen;rw[Fi fun z _=>hs z]at hl;rw[h2,h1]
 conv=>lhs;rw[<-qbq m L,qbt]
 by_cases h0:s=0
 .subst h0;have hz:∀M:List α,M.flatMap enc=[]:=fun M=>qb0 (by rw[Fi fun z _=>hs z];rfl);rw[hz,hz];simp
 .have hL:n=L.length:=Nat.eq_of_mul_eq_mul_right (by omega) hl.symm;exact qch (by rw[Fi fun z _=>hs z,qbb,qcg (by omega)])
theorem Ae8{α:Type}{x z:α}{L:List α}(hz:(x::L)[L.length]?=some z):(((x::L).set 0 z).take L.length).Perm L:=by
 rcases List.eq_nil_or_concat L with rfl|⟨M,y,rfl⟩
 .simp
 .have:z=y:=by
   rw[List.concat_eq_append,qat,qb9,List.getElem?_cons_succ,qbv (qam _),qeb]at hz
   simpa using hz.symm
  subst this;rw[List.concat_eq_append,List.set_cons_zero,qat,qb9,List.take_succ_cons,qch rfl];exact(qex _ _).symm
theorem Aqb{w:World}{bh q n c:Nat}{full:List Value}{x:Int × Nat}{L:List (Int × Nat)}(H0:Ctx w [bh,q] w (HB bh (some ⟨q,0,none⟩) n c full))(O:OS (some ⟨q,0,none⟩) n c 2 full ((x::L).flatMap Fj))(hH:HeapL (x::L))(hn:n<=100000000:=by omega):
  Ret prog 197 #[ptr bh] w fun v w'=>v=.tuple #[.int .i64 x.1,.int .i64 (x.2:Int),.int .i64 0]/\∃(full':List Value) (L':List (Int × Nat)),L'.Perm L/\HeapL L'/\OS (some ⟨q,0,none⟩) L.length c 2 full' (L'.flatMap Fj)/\Ctx w [bh,q] w' (HB bh (some ⟨q,0,none⟩) L.length c full'):=by
 obtain⟨w0,rfl⟩:=qD w;have H:=H0;have hnum:n=L.length+1:=O.numN (fun _ _=>rfl) (by decide);subst hnum;have hol:=O.len;have hole:=O.le;refine Au (fn:=f197) func197 U [.pointer (some ⟨bh,0,none⟩)] U ?_;refine Ae (Ad U (Ad U (Ad U (qA (Ae (A4 U (Al qB (Ajt (H.get at0) (O.rd (t:=294) (fun y hy=>H.blk y (qaj _ hy)) (fun _ _=>rfl) (by decide)) U) U ?_)))))));rintro v w ⟨rfl,hx8⟩;replace H:=H.call hx8;refine Cr U (AH U U (AH U U (AH U U (Ad U (Ad U (Ad U (qA (Ax (Ae ?_)))))))));refine Af U (C3 U U (qA (Aw _ U ?_ ?_)))
 .intro h1;replace h1:=AM h1;obtain⟨z,hz⟩:=AE (l:=x::L) (i:=L.length) (h:=by simp);refine Ae (A4 U (A9 U (Ah CH U (AG DW U H at0 U (Be DG U (Bo U U ?_))))));rw[show(((L.length+1:Nat):Int) - 1)=(L.length:Int)by omega];refine Ad U (qA ?_);obtain⟨w7,rfl⟩:=qD w;have R7:=O.rd (w:=w7.drew) (t:=294) (fun y hy=>H.drew.blk y (qaj _ hy)) (fun _ _=>rfl) (by decide);have O9:=OS.short (OS.over O (fun _=>rfl) (i:=0) (x:=x) rfl z) (fun _=>rfl) (m:=L.length) (by omega);refine Ck [([0,1,2,3,4,5,6,7,8,9,10,11],12)] (fun z=>z=World.drew w7) [12] Br (rfl) (AD U U ?_);refine BG U (Ba U (Ao CH U (LR DW U (by rintro _ rfl;exact H.drew) at0 U ?_)));refine BG U (Ba U (Ao CH U (LR DW U (by rintro _ rfl;exact H.drew) at0 U ?_)));refine Bj U (DL R7 DG Db U U (hn:=by rfl) ?_)
  refine G9 _ Ir Db U U (fun _ hx=>(by subst hx;exact R7.row hz rfl)) ?_;refine DL R7 DG Db U U (hn:=by rfl) (AU ?_);replace H:=H.drew;refine HX (vs:=Fj z) U Db U U U (Jz z) H at1 (by show 0+(0:Int).toNat*2+2<=_;rw[hol];omega) ?_;rintro w H;rw[adr0,show(0:Nat)+(0:Int).toNat*2=0*2 from rfl]at H;refine Ab (Bz U (BF (Ae (A4 U (A4 U (A9 U (Ah CH U (AG DW U H at0 U (Af U (KD U DG Db U U ?_))))))))));refine A9 U (Ah CH U (Cb (.slice _ _ _) Aeo U U U H at0 (by(simp;done)) ?_));rintro w H;refine qA (A0 (A4 U (Al qB (Ajq (Ctx.lend (L2:=[]) H.app_nil) O9 hH.cut) U ?_)));rintro v w ⟨rfl,L',f',hp,hH',O',H'⟩;replace H:=(Ctx.back (L2:=[]) H.app_nil H').nil_app
  refine qA (Ae (Af U (Af U (Af U (Ad U (Ad U (Ad U (qA (A5 (Io (v1:=(.int _ _)) (v2:=(.int _ _)) (v3:=(.int _ _)) U U U U U ?_))))))))));exact⟨rfl,f',L',hp.trans (Ae8 hz),hH',O',H⟩
 .intro h1;replace h1:=AN h1;exact absurd U h1
theorem Lg{P:Program}{e:Env}{w:World}{fn:Func}{R:Value->World->Prop}{a:Tmp}{t:TypeId}{p:Addr}(hr:fn.results=#[.cell a t])(ha:e.g a=.pointer (some p))(h:Marks e.ds w fun w'=>∃v,(loadVar t p).run P w'=.ok v w'/\R v w'):UR P fn R .ret e w :=
 Marks.mono (fun w ⟨v,hv,h⟩ tmps ht=>by
  have h1:=(ht a).trans ha;rw[qax]at h1
  exact⟨v,by simp[results,hr,h1,asAddr,hv],h⟩) h
def Hv(g:Gr)(p:Nat->Int)(k:Nat):List Value:=[.int .i64 (k:Int),.int .i64 (g.u k:Int),.int .i64 (g.v k:Int),.int .i64 (g.len p k)]
theorem QA(g:Gr)(p:Nat->Int)(k:Nat):∀v∈Hv g p k,AY v=true:=fun v hv=>by
 simp only[Hv,qai,qau,or_false]at hv
 rcases hv with rfl|rfl|rfl|rfl <;> rfl
def EU(cap x:Nat->Int)(k:Nat):List Nat:=(List.range (2*k)).filter fun a=>decide (0<CI cap x a)
def LZ(g:Gr)(p:Nat->Int)(l:List Nat):List (List Value):=l.map fun a=>[.agg (Hv g p a).toArray]
theorem S4(cap x:Nat->Int)(k:Nat):EU cap x (k+1)=EU cap x k++((if 0<CI cap x (2*k)then[2*k]else[])++if 0<CI cap x (2*k+1)then[2*k+1]else[]):=by
 unfold EU;rw[show 2*(k+1)=2*k+1+1 by omega,qdx,qdx,qas,qcp]
 congr 1
 rw[qcp]
 congr 1
 .by_cases h:0<CI cap x (2*k)
  .rw[if_pos h,qbw,qan h];rfl
  .rw[if_neg h,qbw,qa2 h];rfl
 .by_cases h:0<CI cap x (2*k+1)
  .rw[if_pos h,qbw,qan h];rfl
  .rw[if_neg h,qbw,qa2 h];rfl
theorem V0(cap x:Nat->Int):∀{m k:Nat},k<=m->∃r,EU cap x m=EU cap x k++r
 |0,k,h=>⟨[],by rw[show k=0 by omega,qa0]⟩
 |m+1,k,h=>by
  rcases qap k (m+1)with h1|h1
  .obtain⟨r,hr⟩:=V0 (m:=m) (k:=k) cap x (by omega);exact⟨_,by rw[S4,hr,qas]⟩
  .exact⟨[],by rw[show k=m+1 by omega,qa0]⟩
theorem YO{g:Gr}{p cap x:Nat->Int}{m k:Nat}{l r:List Nat}{a:Nat}(h:EU cap x (k+1)=l++a::r)(hk:k<m:=by omega):(LZ g p (EU cap x m))[l.length]?=some [.agg (Hv g p a).toArray]:=by
 obtain⟨s,hs⟩:=V0 cap x (m:=m) (k:=k+1) (by omega);unfold LZ;rw[hs,h,qa1,qas,qbv (qam _),qeb];rfl
def Fk(pot:List Int)(i:Nat):Int:=pot.getD i 0
structure EAt(N:Int)(es:List Ed)(fl pot:List Int)(i:Nat)(e:Ed)(xx pu pv:Int)(un vn:Nat):Prop where
 he:es[i]?=some e
 hx:fl[i]?=some xx
 hpu:pot[un]?=some pu
 hpv:pot[vn]?=some pv
 f:e.f=(un:Int)
 t:e.t=(vn:Int)
 un':un<N.toNat
 vn':vn<N.toNat
 gf:(grE N es).f i=un
 gt:(grE N es).t i=vn
 co:(grE N es).co i=e.cost
 cap:Cs es i=e.cap
 fx:flE fl i=xx
 xb:0<=xx/\xx<=e.cap/\e.cap<=4503599627370496
 cb : -1000<=e.cost/\e.cost<=1000
 ub : -1099511627776<=pu/\pu<=1099511627776
 vb : -1099511627776<=pv/\pv<=1099511627776
 pu':Fk pot un=pu
 pv':Fk pot vn=pv
theorem eat{N:Int}{es:List Ed}{fl pot:List Int}(hw:Cu N es fl=true)(hp:GL N pot=true){i:Nat}(hi:i<es.length:=by omega):∃e xx pu pv un vn,EAt N es fl pot i e xx pu pv un vn:=by
 obtain⟨hl,hr,hin⟩:=C5 hw;obtain⟨hpl,hpb⟩:=Mu hp;obtain⟨e,he⟩:=AE (l:=es) (i:=i) (h:=hi);obtain⟨xx,hx⟩:=AE (l:=fl) (i:=i);have hco:=Fb ((CS hr).2.2.2.1 e (qac he));have hxx:=hin i e xx he hx;obtain⟨un,hun⟩:∃un:Nat,e.f=un:=⟨e.f.toNat,by omega⟩;obtain⟨vn,hvn⟩:∃vn:Nat,e.t=vn:=⟨e.t.toNat,by omega⟩;obtain⟨pu,hpu⟩:=AE (l:=pot) (i:=un);obtain⟨pv,hpv⟩:=AE (l:=pot) (i:=vn);refine⟨e,xx,pu,pv,un,vn,he,hx,hpu,hpv,hun,hvn,by omega,by omega,?_,?_,?_,?_,Bv hx,by omega,by omega,hpb _ _ hpu,hpb _ _ hpv,Bv hpu,Bv hpv⟩
 .show(es.getD i e0).f.toNat=un;rw[Bv he,hun];rfl
 .show(es.getD i e0).t.toNat=vn;rw[Bv he,hvn];rfl
 .show(es.getD i e0).cost=e.cost;rw[Bv he]
 .show(es.getD i e0).cap=e.cap;rw[Bv he]
theorem Rd.rowE{α:Type}{enc:α->List Value}{w:World}{a:Option Addr}{s:Nat}{xs:List α}(R:Rd w a s enc xs){i:Nat}{x:α}(hx:xs[i]?=some x){l:List Value}(he:enc x=l)(hs:l.length=s):∀j v,l[j]?=some v->w.cell? ⟨(adr a).block,(adr a).off+i*s+j,none⟩=some v:=by
 subst he;exact R.row hx hs
section
variable {N:Int}{es:List Ed}{fl pot:List Int}{i:Nat}{e:Ed}{xx pu pv:Int}{un vn:Nat}
theorem EAt.enc(h:EAt N es fl pot i e xx pu pv un vn):CO e=[.int .i64 (un:Int),.int .i64 (vn:Int),.int .i64 e.cap,.int .i64 e.cost]:=by
 unfold CO;rw[h.f,h.t]
theorem EAt.fwd(h:EAt N es fl pot i e xx pu pv un vn):Hv (grE N es) (Fk pot) (2*i)=[.int .i64 ((2*i:Nat):Int),.int .i64 (un:Int),.int .i64 (vn:Int),.int .i64 (e.cost+pu - pv)]:=by
 unfold Hv Gr.len Gr.u Gr.v Gr.c;rw[show 2*i % 2=0 by omega,show 2*i / 2=i by omega];simp only[if_true];rw[h.gf,h.gt,h.co,h.pu',h.pv']
theorem EAt.bwd(h:EAt N es fl pot i e xx pu pv un vn):Hv (grE N es) (Fk pot) (2*i+1)=[.int .i64 ((2*i+1:Nat):Int),.int .i64 (vn:Int),.int .i64 (un:Int),.int .i64 (-(e.cost+pu - pv))]:=by
 unfold Hv Gr.len Gr.u Gr.v Gr.c;rw[show(2*i+1) % 2=1 by omega,show(2*i+1) / 2=i by omega];simp only[if_false,Nat.one_ne_zero];rw[h.gf,h.gt,h.co,h.pu',h.pv',show -e.cost+pv - pu = -(e.cost+pu - pv)by omega]
theorem EAt.room0(h:EAt N es fl pot i e xx pu pv un vn):CI (Cs es) (flE fl) (2*i)=e.cap - xx:=by
 unfold CI;rw[show 2*i % 2=0 by omega,show 2*i / 2=i by omega,if_pos rfl,h.cap,h.fx]
theorem EAt.room1(h:EAt N es fl pot i e xx pu pv un vn):CI (Cs es) (flE fl) (2*i+1)=xx:=by
 unfold CI;rw[show(2*i+1) % 2=1 by omega,show(2*i+1) / 2=i by omega,if_neg (by omega),h.fx]
end
theorem YP(N:Int)(a b p:Option Addr)(n c m d q r:Nat)(w:World):Ret prog 193 #[Eo N a n c,.slice b m d,.slice p q r] w fun v w'=>∃b1 b2 b3,v=.func (.func 212) #[] #[ptr b1,ptr b2,ptr b3]/\w'.heap[b1]?=some (Bl 123 [.int .i64 N,.slice a n c])/\w'.heap[b2]?=some (Bl 31 [.slice p q r])/\w'.heap[b3]?=some (Bl 31 [.slice b m d])/\w.heap.size<=b1/\w.heap.size<=b2/\w.heap.size<=b3/\Ext [] w w':=by
 obtain⟨w0,rfl,H⟩:=qE w;refine Au (fn:=f193) func193 U [Eo N a n c,.slice b m d,.slice p q r] U (Ae (Bu [.int .i64 N,.slice a n c] (.agg _) U U H ?_));rintro b3 w - H;refine Bu _ (.slice _ _ _) U U H ?_;rintro b4 w - H;refine Bu _ (.slice _ _ _) U U H ?_;rintro b5 w - H;refine Dd U .nilFunc U (qA (Ae (Cq [.pointer _,.pointer _,.pointer _] U (Dd U (.func _ _ _) U ?_))));refine qA (A5 (AB (v:=(.func _ _ _)) U U U ?_));have ho:∀x∈[(b5,Bl 31 [.slice p q r]),(b4,Bl 31 [.slice b m d]),(b3,Bl 123 [.int .i64 N,.slice a n c])],w0.heap.size<=x.1:=fun x hx=>(H.own x hx).elim (fun h=>by cases h) id;exact⟨b3,b5,b4,rfl,H.get at2,H.get at0,H.get at1,ho (b3,_) (qac (i:=2) U),ho (b5,_) (qac (i:=0) U),ho (b4,_) (qac (i:=1) U),H.ext⟩
structure ArcK(b1 b2 b3:Nat)(N:Int)(a b p:Option Addr)(c d r:Nat)(es:List Ed)(fl pot:List Int)(M:Mt)(w:World):Prop where
 h1:w.heap[b1]?=some (Bl 123 [.int .i64 N,.slice a es.length c])
 h2:w.heap[b2]?=some (Bl 31 [.slice p pot.length r])
 h3:w.heap[b3]?=some (Bl 31 [.slice b fl.length d])
 R:Rd w a 4 CO es
 Rf:Rd w b 1 I1 fl
 Rp:Rd w p 1 I1 pot
theorem V1{b1 b2 b3:Nat}{N:Int}{a b p:Option Addr}{c d r:Nat}{es:List Ed}{fl pot:List Int}(hw:Cu N es fl=true)(hp:GL N pot=true) :
  TE prog 212 #[ptr b1,ptr b2,ptr b3] [] (ArcK b1 b2 b3 N a b p c d r es fl pot) (LZ (grE N es) (Fk pot) (EU (Cs es) (flE fl) es.length)):=by
 intro l w J E hJ0 hJs hEs hK hY;obtain⟨M0,hJ0⟩:=hJ0;obtain⟨hl,hri,-⟩:=C5 hw;obtain⟨hN1,hN40,hn200,-⟩:=CS hri;obtain⟨hpl,-⟩:=Mu hp;obtain⟨w0,rfl⟩:=qD w;refine Au (fn:=f212) func212 U [.func (.yield l) #[] #[],.pointer (some ⟨b1,0,none⟩),.pointer (some ⟨b2,0,none⟩),.pointer (some ⟨b3,0,none⟩)] U ?_;have K0:=(hK _ _ _ hJ0).2;refine Ae (Ah CL U (Bb DM U ((by rw[Aj K0.h1];rfl)) ?_));refine Be CF U (Af U (qA (A1 (Bw 2361183241434822605024 (α:=Nat) (fun i=>[(11,.int .i64 (i:Int))]) (fun i w'=>i<=es.length/\∃M,J (EU (Cs es) (flE fl) i).length M w') (fun i=>es.length - i) 0 U ?_ ?_ ?_))))
 .exact⟨rfl,trivial⟩
 .exact⟨qaq _,M0,hJ0⟩
 .rintro i j w ⟨hi,M,hJ⟩;refine Ae (Bm U U (qA (Ax (Aw _ U ?_ ?_))))
  .intro h1;replace h1:=AM h1;obtain⟨e,xx,pu,pv,un,vn,A⟩:=eat (i:=i) hw hp;obtain⟨he,hfx,hpu,hpv,hf,ht,hun,hvn,-,-,-,-,-,hxb,hcb,hub,hvb,-,-⟩:=id A;have hrs:=S4 (Cs es) (flE fl) i;rw[A.room0,A.room1]at hrs;obtain⟨w1,rfl⟩:=qD w;have KR:∀{z},Ext [] w1 z->ArcK b1 b2 b3 N a b p c d r es fl pot M z:=fun hz=>(hK _ _ _ (hJs _ _ _ _ hJ hz)).2;have R:=(KR (.refl _ _)).R;have Rf:=(KR (.refl _ _)).Rf;have Rp:=(KR (.refl _ _)).Rp;have H:=Ctx.start w1 [];refine Ay (Aa (Ax (A1 (Ae (Af U (Bg R CF CG U U (by rfl) ?_))))));refine C9 _ GU CG U U (Rd.rowE (KR H.ext).R he A.enc U) (Bc Gp H ?_);rintro b6 w - H;refine Ad U (Bn CG U U U (by simp[AY]) H at0 U ?_);rintro w H;refine qA (DT (fun x=>x=_) Br U ?_);refine A6 GD U (Cj B4 U (by rintro _ rfl;exact H.drew) at0 U ?_)
   refine BX BU U (by rintro _ rfl;exact((by rw[Aj (KR H.drew.ext).h2];rfl))) ?_;refine A6 F5 U (Cj Cc U (by rintro _ rfl;exact H.drew) at0 U ?_);refine BL Rp Bf BD U U (by rfl) ?_;refine BX B4 U (by rintro _ rfl;exact(((KR H.drew.ext).Rp.fld hpu rfl (j:=0) rfl))) ?_;refine D4 U U ?_;refine BX BU U (by rintro _ rfl;exact((by rw[Aj (KR H.drew.ext).h2];rfl))) ?_;refine A6 F6 U (Cj Cc U (by rintro _ rfl;exact H.drew) at0 U ?_);refine BL Rp Bf BD U U (by rfl) ?_;refine BX B4 U (by rintro _ rfl;exact(((KR H.drew.ext).Rp.fld hpv rfl (j:=0) rfl))) ?_;refine EA U U (Dv U (BS ?_));rintro _ rfl;replace H:=H.drew;refine Ax ?_;obtain⟨len,hlen⟩:=qD (e.cost+pu - pv);rw[<-hlen];have hf7:=A.fwd;have hb7:=A.bwd;rw[<-hlen]at hf7 hb7
   have hb6:=(H.own _ (qak ..)).elim (fun h=>by cases h) id;have hM:=(hK _ _ _ hJ).1;have hn6:¬M b6:=fun h=>by have:=hM _ h;omega
   have hk6:=H.drew.get at0;have hJ6:=hJs _ _ _ _ hJ H.drew.ext;refine DV 1125898833100800 (α:=Bool) (fun z=>[(49,.bool z)]) (fun z w'=>(z=true->E w')/\(z=false->w'.heap[b6]?=some (Bl 158 [.int .i64 (un:Int),.int .i64 (vn:Int),.int .i64 e.cap,.int .i64 e.cost])/\∃M',¬M' b6/\J (EU (Cs es) (flE fl) i++(if 0<e.cap - xx then[2*i]else[])).length M' w')) U ?_ ?_
   .skip
    refine Gm 17 Br U U ?_;refine BX BU U (by rintro _ rfl;exact((by rw[Aj (KR H.drew.ext).h3];rfl))) ?_;refine AX U (BL Rf Bf BD U U (by rfl) ?_);refine BX B4 U (by rintro _ rfl;exact(((KR H.drew.ext).Rf.fld hfx rfl (j:=0) rfl))) ?_;refine A6 EE U (Cj B4 U (by rintro _ rfl;exact H.drew) at0 U ?_);refine LO U U (CW U (DK 37 U ?_ ?_))
    .intro h2;replace h2:=AM h2;refine N9 U (.func _ _ _) U (AX U (ZE U U U ?_));refine A6 F5 U (Cj Cc U (by rintro _ rfl;exact H.drew) at0 U ?_);refine A6 F6 U (Cj Cc U (by rintro _ rfl;exact H.drew) at0 U ?_);refine AX U (Ac1 (Hv (grE N es) (Fk pot) (2*i)) U Aek KW (by rw[hf7];kernel_rfl) ?_);refine BS ?_;replace H:=H.drew;refine Hl (vs:=[.agg (Hv (grE N es) (Fk pot) (2*i)).toArray]) U (hY _ _ M _ (YO (l:=EU (Cs es) (flE fl) i) (k:=i) (by rw[hrs,if_pos (by omega)];rfl)) hJ6) U ?_;rintro u w hu
     obtain⟨bb,rfl,hu1,hu0⟩:∃bb,u=.bool bb/\(bb=true->w.heap[b6]?=some (Bl 158 [.int .i64 (un:Int),.int .i64 (vn:Int),.int .i64 e.cap,.int .i64 e.cost])/\∃M',¬M' b6/\J ((EU (Cs es) (flE fl) i).length+1) M' w)/\(bb=false->E w):=hu.elim (fun h=>⟨true,h.1,fun _=>let ⟨M',h1,g⟩:=h.2;⟨g.to hk6 hn6,M',g.not (Bd hk6) hn6,h1⟩,fun h=>by cases h⟩) (fun h=>⟨false,h.1,(fun h=>by cases h),fun _=>h.2⟩);refine BP U (AA U (.bool _) U (qA ?_));exact⟨!bb,rfl,⟨rfl,trivial⟩,fun h=>hu0 (by simpa using h),fun h=>by rw[if_pos (by omega),qat];exact hu1 (by simpa using h)⟩
    .intro h2;replace h2:=AN h2;refine A3 U (A3 U (A3 U (A3 U (A3 U (A3 U (A3 U (A3 U (A3 U (BS ?_)))))))));replace H:=H.drew;refine Ag U (Ag U (AJ U (.bool _) U (qA ?_)));exact⟨false,rfl,⟨rfl,trivial⟩,(fun h=>by cases h),fun _=>⟨hk6,M,hn6,by rw[if_neg (by omega),qa0];exact hJ6⟩⟩
   .rintro z j2 w ⟨hz1,hz0⟩;refine Aw _ U ?_ ?_
    .intro h2;refine A5 (Av (AF (Av (Av (AF (Gl U U ?_))))));exact .inr (hz1 h2)
    .intro h2;obtain⟨hk7,M7,hn7,hJ7⟩:=hz0 h2;obtain⟨w7,rfl⟩:=qD w;have K7:=(hK _ _ _ hJ7).2;have H:=Ctx.start w7 [];refine Ay (Aa (Ae (Bb BU U ((by rw[Aj K7.h3];rfl)) ?_)));refine Af U (Bg Rf Bf BD U U (by rfl) ?_);refine Bb B4 U ((K7.Rf.fld hfx U (j:=0) U)) ?_;refine C8 U U (A2 U (AR 55 U ?_ ?_))
     .intro h3;replace h3:=AM h3;have hat:=YO (g:=grE N es) (p:=Fk pot) (cap:=Cs es) (x:=flE fl) (m:=es.length) (l:=EU (Cs es) (flE fl) i++(if 0<e.cap - xx then[2*i]else[])) (k:=i) (a:=2*i+1) (r:=[]) (by rw[hrs,if_pos h3,qas]);refine C7 (.func _ _ _) U (Af U (D0 U U ?_));refine Az U U (Ah F6 U (Bb Cc U ((by rw[Aj hk7];rfl)) ?_));refine Ah F5 U (Bb Cc U ((by rw[Aj hk7];rfl)) ?_);refine Af U (Me U U ?_);refine BA (Hv (grE N es) (Fk pot) (2*i+1)) Aek KW (hl:=by rw[hb7];kernel_rfl) ?_;refine Hl (vs:=[.agg (Hv (grE N es) (Fk pot) (2*i+1)).toArray]) U (hY _ _ M7 _ hat hJ7) U ?_;rintro u w hu
      obtain⟨bb,rfl,hu1,hu0⟩:∃bb,u=.bool bb/\(bb=true->∃M',J ((EU (Cs es) (flE fl) i++(if 0<e.cap - xx then[2*i]else[])).length+1) M' w)/\(bb=false->E w):=hu.elim (fun h=>⟨true,h.1,fun _=>let ⟨M',h1,_⟩:=h.2;⟨M',h1⟩,fun h=>by cases h⟩) (fun h=>⟨false,h.1,(fun h=>by cases h),fun _=>h.2⟩);refine BP U (AA U (.bool _) U (qA (Aw _ U ?_ ?_)))
      .intro h4;replace h4:=BM h4;refine A5 (AF (Av (Av (AF (Gl U U ?_)))));exact .inr (hu0 (by simpa using h4))
      .intro h4;replace h4:=BN h4;refine Ay (A8 (Aa (A0 (Az U U ?_))));refine Af U (qA ?_);refine⟨i+1,rfl,⟨rfl,trivial⟩,⟨by omega,?_⟩,by omega⟩;rw[hrs,if_pos h3,<-qas,qat];exact hu1 (by simpa using h4)
     .intro h3;replace h3:=AN h3;refine Ag U (Ag U (Ag U (Ag U (Ag U (Ag U (Ag U (Ag U (Ag U (Ag U ?_)))))))));refine Ag U (Ag U (Ag U (AJ U (.bool _) U (qA (FE U (Ay (A8 (Aa (A0 (Az U U ?_))))))))));refine Af U (qA ?_);refine⟨i+1,rfl,⟨rfl,trivial⟩,⟨by omega,M7,?_⟩,by omega⟩;rw[hrs,if_neg h3,qa0];exact hJ7
  .intro h1;replace h1:=AN h1;refine Bt (An (An (AK (CV U U ?_))));obtain rfl:i=es.length:=by omega
   exact .inl ⟨M,by unfold LZ;rw[qal];exact hJ⟩
end Go.Proofs.YtffclglpjlcojaaGreat
