/- Part 4 of the proof. -/
import Derived.Test.YtffclglpjlcojaaGreatProg
import Derived.KernelRfl
import Derived.Test.YtffclglpjlcojaaGreatPart3
set_option maxRecDepth 20000
set_option maxHeartbeats 4000000
namespace Go.Proofs.YtffclglpjlcojaaGreat
open Go.GV Go.Proofs.Tryz
theorem Kk:Dt prog 108=some true:=by kernel_rfl
theorem DT:Dt prog 118=some true:=by kernel_rfl
theorem FE:Dt prog 120=some false:=by kernel_rfl
theorem D7:Dt prog 121=some false:=by kernel_rfl
theorem C7:Dt prog 123=some true:=by kernel_rfl
theorem OX:Dt prog 125=some true:=by kernel_rfl
theorem E7:Dt prog 127=some true:=by kernel_rfl
theorem Ft:Dt prog 130=some false:=by kernel_rfl
theorem GD:Dt prog 158=some true:=by kernel_rfl
theorem Ah8:Dt prog 182=some true:=by kernel_rfl
theorem Bw:Dt prog 2=some false:=by kernel_rfl
theorem EN:Dt prog 215=some false:=by kernel_rfl
theorem Ag2:Dt prog 22=some false:=by kernel_rfl
theorem Bz:Dt prog 23=some false:=by kernel_rfl
theorem Gu:Dt prog 235=some false:=by kernel_rfl
theorem Ic:Dt prog 25=some true:=by kernel_rfl
theorem IR:Dt prog 262=some false:=by kernel_rfl
theorem Sc:Dt prog 263=some false:=by kernel_rfl
theorem Ag3:Dt prog 27=some false:=by kernel_rfl
theorem Ve:Dt prog 270=some true:=by kernel_rfl
theorem Vf:Dt prog 271=some false:=by kernel_rfl
theorem LA:Dt prog 283=some false:=by kernel_rfl
theorem DC:Dt prog 289=some false:=by kernel_rfl
theorem Ie:Dt prog 294=some true:=by kernel_rfl
theorem Cd:Dt prog 3=some false:=by kernel_rfl
theorem Hd:Dt prog 30=some false:=by kernel_rfl
theorem BN:Dt prog 31=some false:=by kernel_rfl
theorem Hw:Dt prog 33=some true:=by kernel_rfl
theorem Gi:Dt prog 37=some false:=by kernel_rfl
theorem Q8:Dt prog 38=some false:=by kernel_rfl
theorem Wl:Dt prog 39=some false:=by kernel_rfl
theorem Kl:Dt prog 4=some false:=by kernel_rfl
theorem OY:Dt prog 42=some true:=by kernel_rfl
theorem Km:Dt prog 5=some false:=by kernel_rfl
theorem Ag4:Dt prog 56=some false:=by kernel_rfl
theorem ID:Dt prog 66=some false:=by kernel_rfl
theorem Hx:Dt prog 68=some false:=by kernel_rfl
theorem Q9:Dt prog 70=some false:=by kernel_rfl
theorem ag_74:Dt prog 74=some false:=by kernel_rfl
theorem Vg:Ti prog 133=some (4,127):=by kernel_rfl
theorem Ag5:Ti prog 76=some (16,74):=by kernel_rfl
theorem Zv:DR prog 108=some 16:=by kernel_rfl
theorem Vh:DR prog 118=some 56:=by kernel_rfl
theorem Ah9:DR prog 127=some 128:=by kernel_rfl
theorem Vi:DR prog 158=some 32:=by kernel_rfl
theorem LB:DR prog 2=some 8:=by kernel_rfl
theorem Wm:DR prog 23=some 8:=by kernel_rfl
theorem by_25:DR prog 25=some 56:=by kernel_rfl
theorem Aia:DR prog 270=some 32:=by kernel_rfl
theorem Aib:DR prog 271=some 24:=by kernel_rfl
theorem Aic:DR prog 294=some 16:=by kernel_rfl
theorem by_3:DR prog 3=some 8:=by kernel_rfl
theorem by_33:DR prog 33=some 32:=by kernel_rfl
abbrev qC:List Nat:=[6,7,8,9,10,11,12,20,21,22,23,24,25,26,27,28,29,30,31,32,33,34,35,36,37,38,39,40,41,42,43,44,45,46,47,48,49,50,62,63,64,65,66,67,68,69,70,71,72,73,74,75,76,77,78,79,80,81,82,83,84,85,86,87,88,89,90,91,92,93,96,97,98,99,100,101,102,103,104,105,106,107,108,109,110,111,112,113,114,115,116,117,118,119,120,121,122,123,124,125,126,127,128,129,130,137,138,139,140,141,142,143,144,145,146,147,148,149,150,151,152,153,154,155,156,157,158,159,160,161,162,165,166,167,168,169,170,171,172,173,174,175,176,177,178,179,180,181,182,183,184,185,186,187,188,189,191,192,193,194,195,196,197,198,199,200,201,202,203,204,205,206,207,208,209,210,211,212,213,214,215,216,217,218,219,220,221]
theorem qB{f:Nat}(h:qC.any (Nat.beq f)=true:=by exact U):Au prog f=true:=by obtain⟨g,h,e⟩:=List.any_eq_true.1 h;rw[Nat.eq_of_beq_eq_true e];exact List.all_eq_true.1 (show qC.all (Au prog)=true by kernel_rfl) g h
theorem Bh:CL prog 120=some 23:=by kernel_rfl
theorem C8:CL prog 121=some 158:=by kernel_rfl
theorem OZ:CL prog 209=some 182:=by kernel_rfl
theorem Gj:CL prog 22=some 25:=by kernel_rfl
theorem Vs:CL prog 221=some 27:=by kernel_rfl
theorem Ep:CL prog 235=some 3:=by kernel_rfl
theorem Nf:CL prog 263=some 271:=by kernel_rfl
theorem LC:CL prog 271=some 270:=by kernel_rfl
theorem D3:CL prog 289=some 294:=by kernel_rfl
theorem AV:CL prog 31=some 2:=by kernel_rfl
theorem DE:CL prog 37=some 108:=by kernel_rfl
theorem Dh:CL prog 38=some 118:=by kernel_rfl
theorem Je:CL prog 39=some 127:=by kernel_rfl
theorem Lr:CL prog 56=some 33:=by kernel_rfl
theorem Ef:BJ prog 108 0=some 0:=by kernel_rfl
theorem Jf:BJ prog 108 1=some 1:=by kernel_rfl
theorem FJ:BJ prog 118 0=some 0:=by kernel_rfl
theorem Gw:BJ prog 118 1=some 1:=by kernel_rfl
theorem He:BJ prog 118 2=some 2:=by kernel_rfl
theorem Ez:BJ prog 118 3=some 3:=by kernel_rfl
theorem Kn:BJ prog 118 4=some 4:=by kernel_rfl
theorem Pa:BJ prog 118 5=some 5:=by kernel_rfl
theorem Jg:BJ prog 118 6=some 6:=by kernel_rfl
theorem Eg:BJ prog 123 0=some 0:=by kernel_rfl
theorem CE:BJ prog 123 1=some 1:=by kernel_rfl
theorem EU:BJ prog 125 0=some 0:=by kernel_rfl
theorem FK:BJ prog 125 1=some 1:=by kernel_rfl
theorem Ih:BJ prog 127 0=some 0:=by kernel_rfl
theorem Jh:BJ prog 127 1=some 1:=by kernel_rfl
theorem Mo:BJ prog 127 2=some 2:=by kernel_rfl
theorem Eh:BJ prog 127 3=some 3:=by kernel_rfl
theorem E0:BJ prog 127 4=some 4:=by kernel_rfl
theorem Dq:BJ prog 127 5=some 6:=by kernel_rfl
theorem EF:BJ prog 129 0=some 0:=by kernel_rfl
theorem DO:BJ prog 132 0=some 0:=by kernel_rfl
theorem Ko:BJ prog 132 1=some 1:=by kernel_rfl
theorem Pb:BJ prog 135 0=some 0:=by kernel_rfl
theorem Ji:BJ prog 135 1=some 32:=by kernel_rfl
theorem Fu:BJ prog 135 2=some 33:=by kernel_rfl
theorem Fv:BJ prog 158 0=some 0:=by kernel_rfl
theorem Fw:BJ prog 158 1=some 1:=by kernel_rfl
theorem E3:BJ prog 158 2=some 2:=by kernel_rfl
theorem Gx:BJ prog 158 3=some 3:=by kernel_rfl
theorem ZX:BJ prog 182 0=some 0:=by kernel_rfl
theorem ZY:BJ prog 182 1=some 1:=by kernel_rfl
theorem Hf:BJ prog 217 0=some 0:=by kernel_rfl
theorem EV:BJ prog 217 1=some 2:=by kernel_rfl
theorem EW:BJ prog 217 2=some 3:=by kernel_rfl
theorem Hg:BJ prog 217 3=some 4:=by kernel_rfl
theorem Pc:BJ prog 217 4=some 5:=by kernel_rfl
theorem EA:BJ prog 25 0=some 0:=by kernel_rfl
theorem F6:BJ prog 25 1=some 1:=by kernel_rfl
theorem Sh:BJ prog 25 2=some 2:=by kernel_rfl
theorem NU:BJ prog 25 3=some 3:=by kernel_rfl
theorem Aew:BJ prog 25 4=some 4:=by kernel_rfl
theorem Mp:BJ prog 25 5=some 5:=by kernel_rfl
theorem FT:BJ prog 25 6=some 6:=by kernel_rfl
theorem Mq:BJ prog 265 0=some 0:=by kernel_rfl
theorem E4:BJ prog 265 1=some 1:=by kernel_rfl
theorem Ii:BJ prog 265 2=some 2:=by kernel_rfl
theorem Kp:BJ prog 265 3=some 3:=by kernel_rfl
theorem Pd:BJ prog 270 0=some 0:=by kernel_rfl
theorem TD:BJ prog 270 1=some 1:=by kernel_rfl
theorem FM:BJ prog 270 2=some 2:=by kernel_rfl
theorem Pe:BJ prog 270 3=some 3:=by kernel_rfl
theorem CA:BJ prog 291 0=some 0:=by kernel_rfl
theorem Kq:BJ prog 294 0=some 0:=by kernel_rfl
theorem Pf:BJ prog 294 1=some 1:=by kernel_rfl
theorem EB:BJ prog 33 0=some 0:=by kernel_rfl
theorem FU:BJ prog 33 1=some 1:=by kernel_rfl
theorem Mr:BJ prog 42 0=some 0:=by kernel_rfl
theorem IE:BJ prog 42 1=some 1:=by kernel_rfl
theorem Ms:BJ prog 42 2=some 2:=by kernel_rfl
theorem Si:BJ prog 42 3=some 3:=by kernel_rfl
theorem NV:BJ prog 42 4=some 4:=by kernel_rfl
theorem Sj:BJ prog 42 5=some 5:=by kernel_rfl
theorem GQ:BJ prog 73 0=some 0:=by kernel_rfl
theorem FV:BJ prog 73 1=some 1:=by kernel_rfl
theorem KT:BJ prog 73 2=some 2:=by kernel_rfl
theorem Mu:BJ prog 73 3=some 3:=by kernel_rfl
theorem Bq:Tryz.prog.follows .mixedOrders=true:=by kernel_rfl
theorem FG:Mf prog 130=some (23,118):=by kernel_rfl
theorem ZZ:Ds prog 108=some [(0,1),(1,1)]:=by kernel_rfl
theorem Akh:Ds prog 118=some [(0,1),(1,1),(2,1),(3,1),(4,1),(5,1),(6,1)]:=by kernel_rfl
theorem Aki:Ds prog 123=some [(0,1),(1,1)]:=by kernel_rfl
theorem Aaa:Ds prog 125=some [(0,1),(1,1)]:=by kernel_rfl
theorem Sk:Ds prog 127=some [(0,1),(1,1),(2,1),(3,1),(4,2),(6,2)]:=by kernel_rfl
theorem Aab:Ds prog 129=some [(0,1)]:=by kernel_rfl
theorem Aac:Ds prog 132=some [(0,1),(1,1)]:=by kernel_rfl
theorem Aad:Ds prog 135=some [(0,32),(32,1),(33,1)]:=by kernel_rfl
theorem Vt:Ds prog 158=some [(0,1),(1,1),(2,1),(3,1)]:=by kernel_rfl
theorem Pg:Ds prog 182=some [(0,1),(1,1)]:=by kernel_rfl
theorem Akj:Ds prog 217=some [(0,2),(2,1),(3,1),(4,1),(5,1)]:=by kernel_rfl
theorem G5:Ds prog 25=some [(0,1),(1,1),(2,1),(3,1),(4,1),(5,1),(6,1)]:=by kernel_rfl
theorem Akk:Ds prog 265=some [(0,1),(1,1),(2,1),(3,1)]:=by kernel_rfl
theorem Aae:Ds prog 270=some [(0,1),(1,1),(2,1),(3,1)]:=by kernel_rfl
theorem Akl:Ds prog 291=some [(0,1)]:=by kernel_rfl
theorem Akm:Ds prog 294=some [(0,1),(1,1)]:=by kernel_rfl
theorem Aaf:Ds prog 33=some [(0,1),(1,1)]:=by kernel_rfl
theorem pl_42:Ds prog 42=some [(0,1),(1,1),(2,1),(3,1),(4,1),(5,1),(6,1)]:=by kernel_rfl
theorem Ahj:Ds prog 73=some [(0,1),(1,1),(2,1),(3,1)]:=by kernel_rfl
theorem Da:Ci prog 108=some 2:=by kernel_rfl
theorem BO:Ci prog 118=some 7:=by kernel_rfl
theorem Aag:Ci prog 120=some 1:=by kernel_rfl
theorem Aah:Ci prog 121=some 1:=by kernel_rfl
theorem Cp:Ci prog 123=some 2:=by kernel_rfl
theorem Kr:Ci prog 125=some 2:=by kernel_rfl
theorem C1:Ci prog 127=some 8:=by kernel_rfl
theorem C9:Ci prog 158=some 4:=by kernel_rfl
theorem Ng:Ci prog 182=some 2:=by kernel_rfl
theorem B2:Ci prog 2=some 1:=by kernel_rfl
theorem Bo:Ci prog 23=some 1:=by kernel_rfl
theorem EJ:Ci prog 25=some 7:=by kernel_rfl
theorem Akn:Ci prog 262=some 1:=by kernel_rfl
theorem Ahk:Ci prog 27=some 1:=by kernel_rfl
theorem Ij:Ci prog 270=some 4:=by kernel_rfl
theorem Nh:Ci prog 271=some 1:=by kernel_rfl
theorem Sm:Ci prog 283=some 1:=by kernel_rfl
theorem Aai:Ci prog 289=some 1:=by kernel_rfl
theorem CR:Ci prog 294=some 2:=by kernel_rfl
theorem Gy:Ci prog 3=some 1:=by kernel_rfl
theorem Ahl:Ci prog 31=some 1:=by kernel_rfl
theorem Dy:Ci prog 33=some 2:=by kernel_rfl
theorem sz_37:Ci prog 37=some 1:=by kernel_rfl
theorem XI:Ci prog 4=some 1:=by kernel_rfl
theorem IF:Ci prog 42=some 7:=by kernel_rfl
theorem sz_56:Ci prog 56=some 1:=by kernel_rfl
theorem Ahm:Ci prog 74=some 1:=by kernel_rfl
theorem sz_76:Ci prog 76=some 16:=by kernel_rfl
theorem Sn:Tryz.prog.underlying 166=some (.int .u64):=by kernel_rfl
theorem XJ:Tryz.prog.underlying 2=some (.int .i64):=by kernel_rfl
theorem Fk:Tryz.prog.underlying 23=some (.int .u64):=by kernel_rfl
theorem Vu:Tryz.prog.underlying 272=some (.pointer 291):=by kernel_rfl
theorem Wv:Tryz.prog.underlying 28=some (.pointer 73):=by kernel_rfl
theorem Ako:Tryz.prog.underlying 283=some (.int .u64):=by kernel_rfl
theorem Ph:Tryz.prog.underlying 3=some (.int .i64):=by kernel_rfl
theorem un_4:Tryz.prog.underlying 4=some (.bool):=by kernel_rfl
theorem un_5:Tryz.prog.underlying 5=some (.int .u8):=by kernel_rfl
theorem N1:Tryz.prog.underlying 66=some (.pointer 129):=by kernel_rfl
theorem Ls:Tryz.prog.underlying 68=some (.pointer 132):=by kernel_rfl
theorem QC:Tryz.prog.underlying 70=some (.pointer 135):=by kernel_rfl
theorem un_9:Tryz.prog.underlying 9=some (.string):=by kernel_rfl
theorem GF:Cl prog 108=some ([.int .i64 0,.int .i64 0]):=by kernel_rfl
theorem D4:Cl prog 118=some ([.int .u64 0,.int .i64 0,.int .i64 0,.int .i64 0,.int .i64 0,.int .i64 0,.bool false]):=by kernel_rfl
theorem Ks:Cl prog 123=some ([.int .i64 0,.slice none 0 0]):=by kernel_rfl
theorem So:Cl prog 125=some ([.slice none 0 0,.slice none 0 0]):=by kernel_rfl
theorem Fi:Cl prog 127=some ([.int .u64 0,.int .i64 0,.bool false,.slice none 0 0,.int .i64 0,.slice none 0 0,.slice none 0 0,.slice none 0 0]):=by kernel_rfl
theorem Aaj:Cl prog 129=some ([.slice none 0 0]):=by kernel_rfl
theorem Aak:Cl prog 132=some ([.map none,.int .u64 0]):=by kernel_rfl
theorem Aal:Cl prog 135=some ([.int .u64 0,.int .i64 0,.bool false,.slice none 0 0,.int .i64 0,.slice none 0 0,.slice none 0 0,.slice none 0 0,.int .u64 0,.int .i64 0,.bool false,.slice none 0 0,.int .i64 0,.slice none 0 0,.slice none 0 0,.slice none 0 0,.int .u64 0,.int .i64 0,.bool false,.slice none 0 0,.int .i64 0,.slice none 0 0,.slice none 0 0,.slice none 0 0,.int .u64 0,.int .i64 0,.bool false,.slice none 0 0,.int .i64 0,.slice none 0 0,.slice none 0 0,.slice none 0 0,.int .u64 0,.int .u64 0]):=by kernel_rfl
theorem FZ:Cl prog 158=some ([.int .i64 0,.int .i64 0,.int .i64 0,.int .i64 0]):=by kernel_rfl
theorem J9:Cl prog 182=some ([.int .i64 0,.nilFunc]):=by kernel_rfl
theorem E5:Cl prog 2=some ([.int .i64 0]):=by kernel_rfl
theorem Akp:Cl prog 217=some ([.int .i64 0,.slice none 0 0,.slice none 0 0,.slice none 0 0,.slice none 0 0,.int .i64 0]):=by kernel_rfl
theorem Pi:Cl prog 23=some ([.int .u64 0]):=by kernel_rfl
theorem FA:Cl prog 25=some ([.int .u8 0,.int .i64 0,.int .i64 0,.int .i64 0,.int .i64 0,.int .i64 0,.int .u64 0]):=by kernel_rfl
theorem Akq:Cl prog 262=some ([.pointer none]):=by kernel_rfl
theorem Akr:Cl prog 265=some ([.slice none 0 0,.slice none 0 0,.slice none 0 0,.slice none 0 0]):=by kernel_rfl
theorem zc_27:Cl prog 27=some ([.nilFunc]):=by kernel_rfl
theorem Kt:Cl prog 270=some ([.int .i64 0,.int .i64 0,.int .i64 0,.int .i64 0]):=by kernel_rfl
theorem Aks:Cl prog 271=some ([.slice none 0 0]):=by kernel_rfl
theorem Akt:Cl prog 283=some ([.int .u64 0]):=by kernel_rfl
theorem Aku:Cl prog 291=some ([.slice none 0 0]):=by kernel_rfl
theorem Vv:Cl prog 294=some ([.int .i64 0,.int .i64 0]):=by kernel_rfl
theorem Vw:Cl prog 3=some ([.int .i64 0]):=by kernel_rfl
theorem Ahn:Cl prog 31=some ([.slice none 0 0]):=by kernel_rfl
theorem Gk:Cl prog 33=some ([.int .i64 0,.slice none 0 0]):=by kernel_rfl
theorem zc_4:Cl prog 4=some ([.bool false]):=by kernel_rfl
theorem N2:Cl prog 42=some ([.int .i64 0,.slice none 0 0,.slice none 0 0,.int .u64 0,.slice none 0 0,.int .u64 0,.slice none 0 0]):=by kernel_rfl
theorem zc_56:Cl prog 56=some ([.slice none 0 0]):=by kernel_rfl
theorem Aho:Cl prog 73=some ([.pointer none,.pointer none,.pointer none,.int .i64 0]):=by kernel_rfl
theorem Ahp:Cl prog 76=some (List.replicate 16 (.nilFunc:Value)):=by kernel_rfl
theorem LD:(Tryz.prog.info? 118).bind (·.zero)=some (.agg #[.int .u64 0,.int .i64 0,.int .i64 0,.int .i64 0,.int .i64 0,.int .i64 0,.bool false]):=by kernel_rfl
abbrev Ar:=Nat × Nat × Int
def upd(p:Nat->Int)(v:Nat)(x:Int):Nat->Int:=fun u=>if u=v then x else p u
def Jj(p:Nat->Int)(a:Ar):Nat->Int:=if p a.1+a.2.2<p a.2.1 then upd p a.2.1 (p a.1+a.2.2)else p
def Fea(A:List Ar)(q:Nat->Int):Prop:=∀a∈A,q a.2.1<=q a.1+a.2.2
def step0(A:List Ar)(d:Nat->Int)(v:Nat):Int:=A.foldl (fun m a=>if a.2.1=v then min m (d a.1+a.2.2)else m) (d v)
def DD(A:List Ar):Nat->Nat->Int
 |0,_=>0
 |r+1,v=>step0 A (DD A r) v
theorem LF{d:Nat->Int}{v:Nat}:∀{A:List Ar} {m:Int},A.foldl (fun m a=>if a.2.1=v then min m (d a.1+a.2.2)else m) m<=m
 | [],m=>qax _
 |a::A,m=>by
  rw[qda];refine qbg LF ?_
  split
  .exact Int.min_le_left ..
  .exact qax _
theorem N3{d:Nat->Int}{v:Nat}:∀{A:List Ar} {m:Int} {a:Ar},a∈A->a.2.1=v->A.foldl (fun m a=>if a.2.1=v then min m (d a.1+a.2.2)else m) m<=d a.1+a.2.2
 |b::A,m,a,h,hv=>by
  rw[qda]
  rcases qae.1 h with rfl|h
  .refine qbg LF ?_;rw[if_pos hv];exact Int.min_le_right ..
  .exact N3 h hv
theorem Pj{d:Nat->Int}{v:Nat}:∀{A:List Ar} {m:Int},A.foldl (fun m a=>if a.2.1=v then min m (d a.1+a.2.2)else m) m=m\/∃a∈A,a.2.1=v/\A.foldl (fun m a=>if a.2.1=v then min m (d a.1+a.2.2)else m) m=d a.1+a.2.2
 | [],m => .inl rfl
 |b::A,m=>by
  rw[qda]
  rcases Pj (d:=d) (v:=v) (A:=A) (m:=if b.2.1=v then min m (d b.1+b.2.2)else m)with h|⟨a,ha,hv,h⟩
  .rw[h]
   by_cases hb:b.2.1=v
   .rw[if_pos hb]
    rcases Int.le_total m (d b.1+b.2.2)with h5|h5
    .exact .inl (Int.min_eq_left h5)
    .exact .inr ⟨b,qai ..,hb,Int.min_eq_right h5⟩
   .rw[if_neg hb];exact .inl rfl
  .exact .inr ⟨a,qah _ ha,hv,h⟩
theorem Aam(A:List Ar)(r v:Nat):DD A (r+1) v<=DD A r v:=LF
theorem Mv(A:List Ar)(v:Nat):∀{r s:Nat},r<=s->DD A s v<=DD A r v
 |r,s,h=>by
  obtain⟨k,rfl⟩:=Nat.exists_eq_add_of_le h
  induction k with
  |zero=>exact qax _
  |succ k ih=>exact qbg (Aam A (r+k) v) (ih (by omega))
theorem Aan{A:List Ar}{a:Ar}(h:a∈A)(r:Nat):DD A (r+1) a.2.1<=DD A r a.1+a.2.2:=N3 h rfl
theorem Ww(A:List Ar)(r v:Nat):DD A (r+1) v=DD A r v\/∃a∈A,a.2.1=v/\DD A (r+1) v=DD A r a.1+a.2.2:=Pj
theorem TE{A:List Ar}:∀{r v:Nat},DD A (r+1) v<DD A r v->∃x:Nat->Nat,x (r+1)=v/\∀j,j<=r->DD A (j+1) (x (j+1))<DD A j (x (j+1))/\∃a∈A,a.1=x j/\a.2.1=x (j+1)/\DD A (j+1) (x (j+1))=DD A j (x j)+a.2.2
 |0,v,h=>by
  rcases Ww A 0 v with h1|⟨a,ha,hv,h1⟩
  .omega
  .refine⟨fun j=>if j=0 then a.1 else v,rfl,fun j hj=>?_⟩;obtain rfl:j=0:=by omega
   exact⟨h,a,ha,rfl,hv,h1⟩
 |r+1,v,h=>by
  rcases Ww A (r+1) v with h1|⟨a,ha,hv,h1⟩
  .omega
  .have h2:=Aam A r a.1;have h3:=Aan ha r;rw[hv]at h3;have h4:DD A (r+1) a.1<DD A r a.1:=by omega
   obtain⟨x,hx,hj⟩:=TE h4;obtain⟨y,hy1,hy2⟩:∃y:Nat->Nat,y (r+2)=v/\∀j,j≠r+2->y j=x j:=⟨fun j=>if j=r+2 then v else x j,if_pos rfl,fun j h=>if_neg h⟩;refine⟨y,hy1,fun j hjr=>?_⟩
   by_cases h5:j=r+1
   .subst h5;rw[show r+1+1=r+2 from rfl,hy1,hy2 _ (by omega)];exact⟨h,a,ha,hx.symm,hv,by rw[hx];exact h1⟩
   .rw[hy2 _ (by omega),hy2 _ (by omega)];exact hj j (by omega)
theorem Mw:∀(n:Nat) (l:List Nat),l.Nodup->(∀x∈l,x<n)->l.length<=n
 |0,l,_,h=>by
  cases l with
  |nil=>exact qan _
  |cons x l=>exact absurd (h x (by simp)) (qa7 _)
 |n+1,l,hd,h=>by
  have h1:=Mw n (l.filter (· != n)) (hd.filter _) (fun x hx=>by
   have:=h x (qbd.1 hx).1;have h2:=(qbd.1 hx).2
   simp at h2;omega)
  have h2:l.length=(l.filter (· != n)).length+l.count n:=by
   clear hd h h1
   induction l with
   |nil=>rfl
   |cons x l ih =>
    rw[List.count_cons,qbr]
    by_cases hx:x=n
    .subst hx;simp;omega
    .simp[hx];omega
  have h3:l.count n<=1:=List.nodup_iff_count.1 hd n;omega
theorem Aao{n:Nat}{x:Nat->Nat}(h:∀j,j<=n->x j<n):∃i j,i<j/\j<=n/\x i=x j:=by
 refine Classical.byContradiction fun hn=>?_
 have hd:((List.range (n+1)).map x).Nodup:=by
  rw[List.nodup_iff_pairwise_ne,List.pairwise_map];refine List.Pairwise.imp_of_mem (R:=fun a b=>a<b) (fun{a b} ha hb hab he=>hn ⟨a,b,hab,?_,he⟩) List.pairwise_lt_range;have:=qa6.1 hb;omega
 have h1:=Mw n _ hd fun y hy=>by
  obtain⟨j,hj,rfl⟩:=qag.1 hy;exact h j (by have:=qa6.1 hj;omega)
 simp at h1;omega
theorem Akv{A:List Ar}{n:Nat}{q:Nat->Int}(hq:Fea A q)(hA:∀a∈A,a.1<n/\a.2.1<n)(v:Nat):DD A (n+1) v=DD A n v:=by
 have h1:=Aam A n v;refine Classical.byContradiction fun hne=>?_;obtain⟨x,-,hx⟩:=TE (show DD A (n+1) v<DD A n v by omega)
 obtain⟨i,j,hij,hjn,he⟩:=Aao (n:=n) (x:=fun j=>x (j+1)) (fun j hj=>by
  obtain⟨_,a,ha,_,h2,_⟩:=hx j hj
  rw[<-h2];exact(hA a ha).2)
 have hmono:∀k,i+k<=n->DD A (i+1) (x (i+1)) - q (x (i+1))<=DD A (i+k+1) (x (i+k+1)) - q (x (i+k+1)):=by
  intro k
  induction k with
  |zero=>intro _;exact qax _
  |succ k ih =>
   intro hk;have h2:=ih (by omega);obtain⟨_,a,ha,h3,h4,h5⟩:=hx (i+k+1) hk;have h6:=hq a ha;rw[h3,h4]at h6;show _<=DD A (i+(k+1)+1) (x (i+(k+1)+1)) - q (x (i+(k+1)+1));rw[show i+(k+1)+1=i+k+1+1 by omega,h5];omega
 have h2:=hmono (j - i) (by omega);rw[show i+(j - i)+1=j+1 by omega,<-he]at h2;have h3:=(hx j hjn).1;rw[<-he]at h3;have h4:=Mv A (x (i+1)) (show i+1<=j by omega);omega
theorem Vx{A:List Ar}{n:Nat}{q:Nat->Int}(hq:Fea A q)(hA:∀a∈A,a.1<n/\a.2.1<n):Fea A (DD A n):=fun a ha=>by
 have h1:=Aan ha n;rw[Akv hq hA]at h1;exact h1
theorem Wx{A:List Ar}{m:Int}(h0:0<=m)(hA:∀a∈A,-m<=a.2.2):∀(r v:Nat),-(r*m)<=DD A r v
 |0,v=>by simp[DD]
 |r+1,v=>by
  have e:((r+1:Nat):Int)*m=r*m+m:=by rw[qde,Int.add_mul];simp
  rcases Ww A r v with h|⟨a,ha,hv,h⟩
  .rw[h,e];have:=Wx h0 hA r v;omega
  .rw[h,e];have:=Wx h0 hA r a.1;have:=hA a ha;omega
theorem Wy(p:Nat->Int)(a:Ar)(v:Nat):Jj p a v<=p v:=by
 unfold Jj
 split
 .unfold upd
  split
  .rename_i h1 h2;subst h2;omega
  .exact qax _
 .exact qax _
theorem Aex{p f:Nat->Int}{a:Ar}(hf:f a.2.1<=f a.1+a.2.2)(h:∀v,f v<=p v)(v:Nat):f v<=Jj p a v:=by
 unfold Jj
 split
 .unfold upd
  split
  .rename_i h1 h2;subst h2;have:=h a.1;omega
  .exact h v
 .exact h v
theorem Aap(p:Nat->Int)(a:Ar):Jj p a a.2.1<=p a.1+a.2.2:=by
 unfold Jj
 split
 .unfold upd;rw[if_pos rfl];exact qax _
 .omega
theorem Mx:∀(A:List Ar) (p:Nat->Int) (v:Nat),A.foldl Jj p v<=p v
 | [],_,_=>qax _
 |a::A,p,v=>qbg (Mx A _ v) (Wy p a v)
theorem Sp{f:Nat->Int}:∀{A:List Ar} {p:Nat->Int},Fea A f->(∀v,f v<=p v)->∀v,f v<=A.foldl Jj p v
 | [],_,_,h,v=>h v
 |a::_,_,hf,h,v=>Sp (fun b hb=>hf b (qah _ hb)) (Aex (hf a (qai ..)) h) v
theorem TF{q:Nat->Int}:∀{A:List Ar} {p:Nat->Int},(∀v,p v<=q v)->∀a∈A,A.foldl Jj p a.2.1<=q a.1+a.2.2
 |b::A,p,h,a,ha=>by
  rw[qda]
  rcases qae.1 ha with rfl|ha
  .have h1:=Mx A (Jj p a) a.2.1;have h2:=Aap p a;have:=h a.1;omega
  .exact TF (fun v=>qbg (Wy p b v) (h v)) a ha
def EO(A:List Ar):Nat->(Nat->Int)->Nat->Int
 |0,p=>p
 |r+1,p=>A.foldl Jj (EO A r p)
theorem KU(A:List Ar):∀(r:Nat) (v:Nat),EO A r (fun _=>0) v<=DD A r v
 |0,v=>qax _
 |r+1,v=>by
  show A.foldl Jj (EO A r fun _=>0) v<=_
  rcases Ww A r v with h|⟨a,ha,hv,h⟩
  .rw[h];exact qbg (Mx A _ v) (KU A r v)
  .rw[h,<-hv];exact TF (KU A r) a ha
theorem KV{A:List Ar}{f:Nat->Int}(hf:Fea A f)(h0:∀v,f v<=0):∀(r v:Nat),f v<=EO A r (fun _=>0) v
 |0,v=>h0 v
 |r+1,v=>Sp hf (KV hf h0 r) v
theorem XK{A:List Ar}{n:Nat}{q:Nat->Int}(hq:Fea A q)(hA:∀a∈A,a.1<n/\a.2.1<n):Fea A (EO A n fun _=>0):=by
 have hf:=Vx hq hA;have h0:∀v,DD A n v<=0:=fun v=>Mv A v (qaj n);have he:∀v,EO A n (fun _=>0) v=DD A n v:=fun v=>Int.le_antisymm (KU A n v) (KV hf h0 n v);intro a ha;rw[he,he];exact hf a ha
theorem Aaq{A:List Ar}{n:Nat}{q:Nat->Int}(hq:Fea A q)(hA:∀a∈A,a.1<n/\a.2.1<n){m:Int}(hc:∀a∈A,-m<=a.2.2)(r v:Nat)(hm:0<=m:=by omega): -(n*m)<=EO A r (fun _=>0) v/\EO A r (fun _=>0) v<=0 :=
 ⟨qbg (Wx hm hc n v) (KV (Vx hq hA) (fun v=>Mv A v (qaj n)) r v),qbg (KU A r v) (Mv A v (qaj r))⟩
theorem TG(a b:Int):a<b\/b<=a:=by omega
def BC(f:Nat->Int):Nat->Int
 |0=>0
 |k+1=>BC f k+f k
theorem C3{f g:Nat->Int}:∀{k:Nat},(∀i,i<k->f i=g i)->BC f k=BC g k
 |0,_=>rfl
 |k+1,h=>by
  show BC f k+f k=BC g k+g k;rw[C3 fun i hi=>h i (by omega),h k (by omega)]
theorem NW(f g:Nat->Int):∀k,BC (fun i=>f i+g i) k=BC f k+BC g k
 |0=>rfl
 |k+1=>by
  show BC _ k+(f k+g k)=(BC f k+f k)+(BC g k+g k);rw[NW f g k];omega
theorem NX(f:Nat->Int):∀k,BC (fun i => -f i) k = -BC f k
 |0=>rfl
 |k+1=>by
  show BC _ k + -f k = -(BC f k+f k);rw[NX f k];omega
theorem KW(f g:Nat->Int)(k:Nat):BC (fun i=>f i - g i) k=BC f k - BC g k:=by
 have h:=NW f (fun i => -g i) k;rw[NX]at h;exact h
theorem Sq(c:Int)(f:Nat->Int):∀k,BC (fun i=>c*f i) k=c*BC f k
 |0=>by show(0:Int)=c*0;omega
 |k+1=>by
  show BC _ k+c*f k=c*(BC f k+f k);rw[Sq c f k,Int.mul_add]
theorem Hh:∀k,BC (fun _=>0) k=0
 |0=>rfl
 |k+1=>by show BC _ k+0=0;rw[Hh k];rfl
theorem Ik{f:Nat->Int}:∀{k:Nat},(∀i,i<k->0<=f i)->0<=BC f k
 |0,_=>qax _
 |k+1,h=>by
  have:=Ik (k:=k) fun i hi=>h i (by omega);have:=h k (by omega);show 0<=BC f k+f k;omega
theorem Ku{f g:Nat->Int}{k:Nat}(h:∀i,i<k->f i<=g i):BC f k<=BC g k:=by
 have h1:=Ik (f:=fun i=>g i - f i) (k:=k) fun i hi=>by have:=h i hi;omega
 rw[KW]at h1;omega
theorem Sr{f:Nat->Int}:∀{k:Nat} {j:Nat},(∀i,i<k->0<=f i)->j<k->0<f j->0<BC f k
 |k+1,j,h,hj,hp=>by
  show 0<BC f k+f k;have h1:=Ik (k:=k) fun i hi=>h i (by omega);have h2:=h k (by omega)
  by_cases e:j=k
  .subst e;omega
  .have:=Sr (k:=k) (j:=j) (fun i hi=>h i (by omega)) (by omega) hp;omega
theorem Pk(f:Nat->Nat->Int)(m:Nat):∀k,BC (fun i=>BC (f i) m) k=BC (fun j=>BC (fun i=>f i j) k) m
 |0=>(Hh m).symm
 |k+1=>by
  show BC _ k+BC (f k) m=BC (fun j=>BC (fun i=>f i j) k+f k j) m;rw[NW,Pk f m k]
def one(b:Prop)[Decidable b]:Int:=if b then 1 else 0
theorem HM(g:Nat->Int){u:Nat}:∀{k:Nat},u<k->BC (fun v=>one (u=v)*g v) k=g u
 |k+1,h=>by
  show BC _ k+one (u=k)*g k=g u
  by_cases e:u=k
  .subst e
   have h1:BC (fun v=>one (u=v)*g v) u=BC (fun _=>0) u:=C3 fun i hi=>by
    unfold one;rw[if_neg (by omega)];omega
   rw[h1,Hh,one,if_pos rfl];omega
  .rw[HM g (by omega:u<k),one,if_neg e];omega
structure Gr where
 N:Nat
 E:Nat
 f:Nat->Nat
 t:Nat->Nat
 co:Nat->Int
structure Gr.Ok(g:Gr):Prop where
 f:∀i,i<g.E->g.f i<g.N
 t:∀i,i<g.E->g.t i<g.N
def Em(g:Gr)(x:Nat->Int)(k v:Nat):Int:=BC (fun i=>(one (g.t i=v) - one (g.f i=v))*x i) k
def BD(g:Gr)(x:Nat->Int)(v:Nat):Int:=Em g x g.E v
def Hi(g:Gr)(x:Nat->Int):Int:=BC (fun i=>x i*g.co i) g.E
theorem Vy(g:Gr)(hg:g.Ok)(x r:Nat->Int):BC (fun v=>BD g x v*r v) g.N=BC (fun i=>(r (g.t i) - r (g.f i))*x i) g.E:=by
 have h1:BC (fun v=>BD g x v*r v) g.N=BC (fun v=>BC (fun i=>(one (g.t i=v) - one (g.f i=v))*x i*r v) g.E) g.N:=C3 fun v _=>by
  unfold BD Em;rw[qcs,<-Sq];exact C3 fun i _=>by rw[qcs]
 rw[h1,<-Pk];refine C3 fun i hi=>?_
 have h2:BC (fun v=>(one (g.t i=v) - one (g.f i=v))*x i*r v) g.N=BC (fun v=>one (g.t i=v)*(x i*r v) - one (g.f i=v)*(x i*r v)) g.N:=C3 fun v _=>by
  rw[Int.mul_assoc,Int.sub_mul]
 rw[h2,KW,HM (fun v=>x i*r v) (hg.t i hi),HM (fun v=>x i*r v) (hg.f i hi),Int.sub_mul,qcs (r _),qcs (r _)]
theorem over_all(g:Gr)(hg:g.Ok)(x:Nat->Int):BC (BD g x) g.N=0:=by
 have h:=Vy g hg x fun _=>1;have h1:BC (fun v=>BD g x v*1) g.N=BC (BD g x) g.N:=C3 fun v _=>by omega
 rw[<-h1,h];have h2:BC (fun i=>((1:Int) - 1)*x i) g.E=BC (fun _=>0) g.E:=C3 fun i _=>by omega
 rw[h2,Hh]
def Gr.u(g:Gr)(a:Nat):Nat:=if a % 2=0 then g.f (a / 2)else g.t (a / 2)
def Gr.v(g:Gr)(a:Nat):Nat:=if a % 2=0 then g.t (a / 2)else g.f (a / 2)
def Gr.c(g:Gr)(a:Nat):Int:=if a % 2=0 then g.co (a / 2)else -g.co (a / 2)
def CB(cap x:Nat->Int)(a:Nat):Int:=if a % 2=0 then cap (a / 2) - x (a / 2)else x (a / 2)
def Gr.len(g:Gr)(p:Nat->Int)(a:Nat):Int:=g.c a+p (g.u a) - p (g.v a)
structure Fine(g:Gr)(cap x p:Nat->Int):Prop where
 in':∀i,i<g.E->0<=x i/\x i<=cap i
 fit:∀a,a<2*g.E->0<CB cap x a->0<=g.len p a
theorem Gr.Ok.u{g:Gr}(h:g.Ok){a:Nat}(ha:a<2*g.E):g.u a<g.N:=by
 unfold Gr.u;split
 .exact h.f _ (by omega)
 .exact h.t _ (by omega)
theorem Gr.Ok.v{g:Gr}(h:g.Ok){a:Nat}(ha:a<2*g.E):g.v a<g.N:=by
 unfold Gr.v;split
 .exact h.t _ (by omega)
 .exact h.f _ (by omega)
theorem Kv(g:Gr)(i:Nat):g.u (2*i)=g.f i/\g.v (2*i)=g.t i/\g.c (2*i)=g.co i:=by
 unfold Gr.u Gr.v Gr.c;rw[if_pos (by omega),if_pos (by omega),if_pos (by omega),show 2*i / 2=i by omega];exact⟨rfl,rfl,rfl⟩
theorem My(g:Gr)(i:Nat):g.u (2*i+1)=g.t i/\g.v (2*i+1)=g.f i/\g.c (2*i+1) = -g.co i:=by
 unfold Gr.u Gr.v Gr.c;(iterate 3 rw[if_neg (by omega)]);rw[show(2*i+1) / 2=i by omega];exact⟨rfl,rfl,rfl⟩
theorem Fine.fwd{g:Gr}{cap x p:Nat->Int}(h:Fine g cap x p){i:Nat}(hi:i<g.E)(hr:x i<cap i):0<=g.co i+p (g.f i) - p (g.t i):=by
 have h1:=h.fit (2*i) (by omega) (by unfold CB;rw[if_pos (by omega),show 2*i / 2=i by omega];omega);obtain⟨a,b,c⟩:=Kv g i;unfold Gr.len at h1
 rwa [a,b,c]at h1
theorem Fine.bwd{g:Gr}{cap x p:Nat->Int}(h:Fine g cap x p){i:Nat}(hi:i<g.E)(hr:0<x i):g.co i+p (g.f i) - p (g.t i)<=0:=by
 have h1:=h.fit (2*i+1) (by omega) (by unfold CB;rw[if_neg (by omega),show(2*i+1) / 2=i by omega];exact hr);obtain⟨a,b,c⟩:=My g i;unfold Gr.len at h1;rw[a,b,c]at h1;omega
theorem Fine.of{g:Gr}{cap x p:Nat->Int}(h0:∀i,i<g.E->0<=x i/\x i<=cap i)(h1:∀i,i<g.E->x i<cap i->0<=g.co i+p (g.f i) - p (g.t i))(h2:∀i,i<g.E->0<x i->g.co i+p (g.f i) - p (g.t i)<=0):Fine g cap x p:=by
 refine⟨h0,fun a ha hr=>?_⟩;have hm:a % 2=0\/a % 2=1:=by omega
 unfold Gr.len
 rcases hm with hm|hm
 .obtain⟨b,c,d⟩:=Kv g (a / 2);rw[show 2*(a / 2)=a by omega]at b c d;rw[b,c,d];unfold CB at hr;rw[if_pos hm]at hr;exact h1 _ (by omega) (by omega)
 .obtain⟨b,c,d⟩:=My g (a / 2);rw[show 2*(a / 2)+1=a by omega]at b c d;rw[b,c,d];unfold CB at hr;rw[if_neg (by omega)]at hr;have:=h2 _ (by omega) hr;omega
theorem Fine.best{g:Gr}(hg:g.Ok){cap x p:Nat->Int}(h:Fine g cap x p)(hx:∀v,v<g.N->BD g x v=0){y:Nat->Int}(hy:∀i,i<g.E->0<=y i/\y i<=cap i)(hyo:∀v,v<g.N->BD g y v=0):Hi g x<=Hi g y:=by
 have hz:∀z:Nat->Int,(∀v,v<g.N->BD g z v=0)->Hi g z=BC (fun i=>(g.co i+p (g.f i) - p (g.t i))*z i) g.E:=fun z hz=>by
  have h1:=Vy g hg z p;have h2:BC (fun v=>BD g z v*p v) g.N=BC (fun _=>0) g.N:=C3 fun v hv=>by rw[hz v hv];omega
  rw[h2,Hh]at h1
  have h3:BC (fun i=>(g.co i+p (g.f i) - p (g.t i))*z i) g.E=BC (fun i=>z i*g.co i - (p (g.t i) - p (g.f i))*z i) g.E:=C3 fun i _=>by
   rw[qcs (z i),<-Int.sub_mul];congr 1;omega
  rw[h3,KW,<-h1];unfold Hi;omega
 rw[hz x hx,hz y hyo];refine Ku fun i hi=>?_;obtain⟨a,b⟩:=h.in' i hi;obtain⟨c,d⟩:=hy i hi
 rcases TG (g.co i+p (g.f i) - p (g.t i)) 0 with h5|h5
 .have h6:x i=cap i:=by
   rcases TG (x i) (cap i)with h7|h7
   .have:=h.fwd hi h7;omega
   .omega
  exact Int.mul_le_mul_of_nonpos_left (by omega) (by omega)
 .rcases TG 0 (g.co i+p (g.f i) - p (g.t i))with h6|h6
  .have h7:x i=0:=by
    rcases TG 0 (x i)with h7|h7
    .have:=h.bwd hi h7;omega
    .omega
   exact qdf (by omega) (by omega)
  .rw[show g.co i+p (g.f i) - p (g.t i)=0 by omega];omega
structure Lb where
 d:Nat->Int
 h:Nat->Nat
def le2(d1:Int)(h1:Nat)(d2:Int)(h2:Nat):Prop:=d1<d2\/(d1=d2/\h1<=h2)
theorem le2.trans{a b c:Int}{x y z:Nat}(h1:le2 a x b y)(h2:le2 b y c z):le2 a x c z:=by unfold le2 at *;omega
theorem le2.refl(a:Int)(x:Nat):le2 a x a x := .inr ⟨rfl,qan _⟩
def Ek(s:Lb)(v:Nat)(d:Int)(h:Nat):Prop:=s.d v = -1\/d<s.d v\/(d=s.d v/\h<s.h v)
instance (s:Lb)(v:Nat)(d:Int)(h:Nat):Decidable (Ek s v d h):=by unfold Ek;infer_instance
def Il(s:Lb)(v:Nat)(d:Int)(h:Nat):Lb:=⟨fun u=>if u=v then d else s.d u,fun u=>if u=v then h else s.h u⟩
def Hj(s:Lb)(a:Ar):Lb:=if Ek s a.2.1 (s.d a.1+a.2.2) (s.h a.1+1)then Il s a.2.1 (s.d a.1+a.2.2) (s.h a.1+1)else s
def IU(s:Lb)(a:Ar)(hp:List (Int × Nat)):List (Int × Nat):=if Ek s a.2.1 (s.d a.1+a.2.2) (s.h a.1+1)then(s.d a.1+a.2.2,a.2.1)::hp else hp
def Ss(A:List Ar)(n:Nat)(m:Int):Prop:=∀a∈A,a.1<n/\a.2.1<n/\0<=a.2.2/\a.2.2<=m
structure DJ(A:List Ar)(src:List Nat)(n:Nat)(m:Int)(s:Lb):Prop where
 low:∀v,s.d v = -1\/0<=s.d v
 src':∀v∈src,v<n/\s.d v=0/\s.h v=0
 zero:∀v,s.d v ≠ -1->s.h v=0->v∈src
 none':∀v,s.d v = -1->s.h v=0
 pre:∀v,s.d v ≠ -1->s.h v≠0->∃a∈A,a.2.1=v/\s.d a.1 ≠ -1/\le2 (s.d a.1+a.2.2) (s.h a.1+1) (s.d v) (s.h v)
 walk:∀v,s.d v ≠ -1->∃W:List Nat,W.Nodup/\W.length=s.h v+1/\∀x∈W,x<n/\s.d x ≠ -1/\le2 (s.d x) (s.h x) (s.d v) (s.h v)
 bnd:∀v,s.d v ≠ -1->s.d v<=s.h v*m
def Rlx(s:Lb)(a:Ar):Prop:=s.d a.2.1 ≠ -1/\le2 (s.d a.2.1) (s.h a.2.1) (s.d a.1+a.2.2) (s.h a.1+1)
def Clo(A:List Ar)(s:Lb)(hp:List (Int × Nat))(u:Nat)(done:List Ar):Prop :=
 ∀v,s.d v ≠ -1->(s.d v,v)∈hp\/∀a∈A,a.1=v->(v=u->a∈done)->Rlx s a
def Aar(n:Nat)(m:Int)(s:Lb)(v:Nat):Int:=if s.d v = -1 then n*m*64+64 else s.d v*64+s.h v
def meas(n:Nat)(m:Int)(s:Lb)(hp:List (Int × Nat)):Int:=2*BC (Aar n m s) n+hp.length
theorem DJ.hops{A:List Ar}{src:List Nat}{n:Nat}{m:Int}{s:Lb}(J:DJ A src n m s){v:Nat}(hv:s.d v ≠ -1):s.h v+1<=n:=by
 obtain⟨W,h1,h2,h3⟩:=J.walk v hv;rw[<-h2];exact Mw n W h1 fun x hx=>(h3 x hx).1
section
variable {A:List Ar}{src:List Nat}{n:Nat}{m:Int}{s:Lb}{hp:List (Int × Nat)}{u:Nat}{dn:List Ar}{a:Ar}
theorem DJ.relax(hA:Ss A n m)(hm:0<=m)(hn:n<=60)(J:DJ A src n m s)(K:Clo A s hp u dn)(ha:a∈A)(hu:a.1=u)(hd:s.d u ≠ -1) :
  DJ A src n m (Hj s a)/\Clo A (Hj s a) (IU s a hp) u (dn++[a])/\(Hj s a).d u=s.d u/\(Hj s a).h u=s.h u/\meas n m (Hj s a) (IU s a hp)<=meas n m s hp:=by
 subst hu;obtain⟨hu1,hv1,hl0,hlm⟩:=hA a ha;have hdu:=(J.low a.1).resolve_left hd
 by_cases hb:Ek s a.2.1 (s.d a.1+a.2.2) (s.h a.1+1)
 .obtain⟨d',hd'⟩:∃d',d'=s.d a.1+a.2.2:=⟨_,rfl⟩;obtain⟨h',hh'⟩:∃h',h'=s.h a.1+1:=⟨_,rfl⟩;obtain⟨v,hv⟩:=qD a.2.1;have hS:Hj s a=Il s v d' h':=by unfold Hj;rw[if_pos hb,hd',hh',hv]
  have hH:IU s a hp=(d',v)::hp:=by unfold IU;rw[if_pos hb,hd',hv]
  rw[<-hd',<-hh',<-hv]at hb;rw[<-hv]at hv1
  have hvu:v≠a.1:=fun e=>by
   unfold Ek at hb;rw[e]at hb;omega
  rw[hS,hH];have p1:(Il s v d' h').d v=d':=if_pos rfl;have p2:(Il s v d' h').h v=h':=if_pos rfl;have p3:∀x,x≠v->(Il s v d' h').d x=s.d x:=fun x hx=>if_neg hx;have p4:∀x,x≠v->(Il s v d' h').h x=s.h x:=fun x hx=>if_neg hx
  have hsrc:v∉src:=fun hs=>by
   obtain⟨_,q1,q2⟩:=J.src' v hs;unfold Ek at hb;rw[q1,q2]at hb;omega
  -- labels become no greater
  have hless:∀x,s.d x ≠ -1->(Il s v d' h').d x ≠ -1/\le2 ((Il s v d' h').d x) ((Il s v d' h').h x) (s.d x) (s.h x):=fun x hx=>by
   by_cases e:x=v
   .subst e;rw[p1,p2];unfold Ek at hb;exact⟨by omega,by unfold le2;omega⟩
   .rw[p3 x e,p4 x e];exact⟨hx,le2.refl _ _⟩
  have hadd:∀{x:Nat} (l:Int),s.d x ≠ -1->le2 ((Il s v d' h').d x+l) ((Il s v d' h').h x+1) (s.d x+l) (s.h x+1):=fun{x} l hx=>by
   have:=(hless x hx).2;unfold le2 at *;omega
  -- the way to v
  obtain⟨W,w1,w2,w3⟩:=J.walk a.1 hd
  have hvW:v∉W:=fun hx=>by
   have q:=(w3 v hx).2;unfold Ek at hb;unfold le2 at q;omega
  have hWn:(W++[v]).Nodup:=by
   rw[qdu];exact⟨w1,by simp,fun x hx y hy e=>by rw[qab.1 hy]at e;exact hvW (e ▸ hx)⟩
  have hWl:(W++[v]).length=h'+1:=by rw[qat,w2,hh'];rfl
  have hh'n:h'+1<=n:=by
   rw[<-hWl];exact Mw n _ hWn fun x hx=>(qbi.1 hx).elim (fun h=>(w3 x h).1) fun h=>by rw[qab.1 h];exact hv1
  have hbd:d'<=h'*m:=by
   have q:=J.bnd a.1 hd;rw[hd',hh',qde,Int.add_mul];simp;omega
  have J':DJ A src n m (Il s v d' h'):=by
   refine⟨fun x=>?_,fun x hx=>?_,fun x hx h0=>?_,fun x hx=>?_,fun x hx h0=>?_,fun x hx=>?_,fun x hx=>?_⟩
   .by_cases e:x=v
    .subst e;rw[p1];omega
    .rw[p3 x e];exact J.low x
   .have e:x≠v:=fun e=>hsrc (e ▸ hx);rw[p3 x e,p4 x e];exact J.src' x hx
   .by_cases e:x=v
    .subst e;rw[p2]at h0;omega
    .rw[p3 x e]at hx;rw[p4 x e]at h0;exact J.zero x hx h0
   .by_cases e:x=v
    .subst e;rw[p1]at hx;omega
    .rw[p3 x e]at hx;rw[p4 x e];exact J.none' x hx
   .by_cases e:x=v
    .subst e;refine⟨a,ha,hv.symm,?_,?_⟩
     .rw[p3 _ (Ne.symm hvu)];exact hd
     .rw[p1,p2,p3 _ (Ne.symm hvu),p4 _ (Ne.symm hvu),<-hd',<-hh'];exact le2.refl _ _
    .rw[p3 x e]at hx |-;rw[p4 x e]at h0 |-;obtain⟨b,hb1,hb2,hb3,hb4⟩:=J.pre x hx h0;exact⟨b,hb1,hb2,(hless _ hb3).1,(hadd _ hb3).trans hb4⟩
   .by_cases e:x=v
    .subst e;refine⟨W++[x],hWn,by rw[hWl,p2],fun y hy=>?_⟩;rw[p1,p2]
     rcases qbi.1 hy with hy|hy
     .obtain⟨q1,q2,q3⟩:=w3 y hy;refine⟨q1,(hless y q2).1,(hless y q2).2.trans (q3.trans ?_)⟩;unfold le2;omega
     .rw[qab.1 hy,p1,p2];exact⟨hv1,by omega,le2.refl _ _⟩
    .rw[p3 x e]at hx |-;rw[p4 x e];obtain⟨W2,q1,q2,q3⟩:=J.walk x hx;exact⟨W2,q1,q2,fun y hy=>⟨(q3 y hy).1,(hless y (q3 y hy).2.1).1,(hless y (q3 y hy).2.1).2.trans (q3 y hy).2.2⟩⟩
   .by_cases e:x=v
    .subst e;rw[p1,p2];exact hbd
    .rw[p3 x e]at hx |-;rw[p4 x e];exact J.bnd x hx
  have hval:∀x,Aar n m (Il s v d' h') x<=Aar n m s x - one (v=x):=fun x=>by
   by_cases e:x=v
   .subst e;unfold one;rw[if_pos rfl];unfold Aar;rw[p1,p2,if_neg (show ¬d' = -1 by omega)]
    split
    .have q:(h':Int)*m<=(n:Int)*m:=qeb (by omega) hm;omega
    .have q1:=(J.low x).resolve_left ‹_›;unfold Ek at hb;omega
   .have e1:one (v=x)=0:=if_neg fun h=>e h.symm;unfold Aar;rw[p3 x e,p4 x e,e1,Int.sub_zero];exact qax _
  refine⟨J',fun x hx=>?_,p3 _ (Ne.symm hvu),p4 _ (Ne.symm hvu),?_⟩
  .by_cases e:x=v
   .subst e;left;rw[p1];exact qai ..
   .rw[p3 x e]at hx |-
    rcases K x hx with q|q
    .exact .inl (qah _ q)
    .refine .inr fun b hb1 hb2 hb3=>?_
     by_cases eb:b=a
     .subst eb;refine⟨by rw[<-hv,p1];omega,?_⟩;rw[<-hv,p1,p2,p3 _ (Ne.symm hvu),p4 _ (Ne.symm hvu),<-hd',<-hh'];exact le2.refl _ _
     .obtain⟨r1,r2⟩:=q b hb1 hb2 fun h=>(qbi.1 (hb3 h)).resolve_right fun h=>eb (qab.1 h);refine⟨(hless _ r1).1,(hless _ r1).2.trans ?_⟩;have eb1:b.1≠v:=by rw[hb2];exact e
      rw[p3 _ eb1,p4 _ eb1];exact r2
  .unfold meas;have q1:=Ku (k:=n) fun i _=>hval i;rw[KW]at q1;have q2:=HM (fun _=>(1:Int)) hv1;have q3:BC (fun x=>one (v=x)) n=BC (fun x=>one (v=x)*1) n:=C3 fun i _=>by omega
   rw[<-q3]at q2;rw[qa8];omega
 .have hS:Hj s a=s:=by unfold Hj;rw[if_neg hb]
  have hH:IU s a hp=hp:=by unfold IU;rw[if_neg hb]
  rw[hS,hH];refine⟨J,fun x hx=>?_,rfl,rfl,qax _⟩
  rcases K x hx with q|q
  .exact .inl q
  .refine .inr fun b hb1 hb2 hb3=>?_
   by_cases eb:b=a
   .subst eb;unfold Ek at hb;unfold Rlx le2;omega
   .exact q b hb1 hb2 fun h=>(qbi.1 (hb3 h)).resolve_right fun h=>eb (qab.1 h)
def lb0(src:List Nat):Lb:=⟨fun v=>if v∈src then 0 else -1,fun _=>0⟩
theorem DJ.start(hs:∀v∈src,v<n):DJ A src n m (lb0 src):=by
 have h1:∀v,(lb0 src).d v ≠ -1->v∈src:=fun v hv=>Classical.byContradiction fun h=>hv (if_neg h);refine⟨fun v=>?_,fun v hv=>⟨hs v hv,if_pos hv,rfl⟩,fun v hv _=>h1 v hv,fun v _=>rfl,fun v _ h=>absurd rfl h,fun v hv=>⟨[v],by simp,rfl,fun x hx=>?_⟩,fun v hv=>?_⟩
 .unfold lb0;dsimp only;split
  .exact .inr (qax _)
  .exact .inl U
 .rw[qab.1 hx];exact⟨hs v (h1 v hv),hv,le2.refl _ _⟩
 .have:(lb0 src).d v=0:=if_pos (h1 v hv);rw[this];show(0:Int)<=((0:Nat):Int)*m;omega
structure Done(A:List Ar)(src:List Nat)(n:Nat)(m:Int)(s:Lb):Prop where
 J:DJ A src n m s
 arc:∀a∈A,s.d a.1 ≠ -1->s.d a.2.1 ≠ -1/\s.d a.2.1<=s.d a.1+a.2.2
 pre:∀v,s.d v ≠ -1->s.h v≠0->∃a∈A,a.2.1=v/\s.d a.1 ≠ -1/\s.d a.1+a.2.2=s.d v/\s.h a.1+1=s.h v
theorem DJ.ends(J:DJ A src n m s)(K:Clo A s [] u A):Done A src n m s:=by
 have hr:∀a∈A,s.d a.1 ≠ -1->Rlx s a:=fun a ha h=>(K a.1 h).elim (fun h=>by cases h) fun h=>h a ha rfl fun _=>ha;refine⟨J,fun a ha h=>?_,fun v hv h0=>?_⟩
 .obtain⟨h1,h2⟩:=hr a ha h;exact⟨h1,by unfold le2 at h2;omega⟩
 .obtain⟨a,ha,h1,h2,h3⟩:=J.pre v hv h0;obtain⟨h4,h5⟩:=hr a ha h2;rw[h1]at h5;refine⟨a,ha,h1,h2,?_,?_⟩
  .unfold le2 at h3 h5;omega
  .unfold le2 at h3 h5;omega
end
def Mz(g:Gr)(cap x p:Nat->Int):List Ar:=((List.range (2*g.E)).filter fun a=>decide (0<CB cap x a)).map fun a=>(g.u a,g.v a,g.len p a)
theorem Kw{g:Gr}{cap x p:Nat->Int}{b:Ar}:b∈Mz g cap x p↔∃a,a<2*g.E/\0<CB cap x a/\b=(g.u a,g.v a,g.len p a):=by
 unfold Mz;rw[qag];constructor
 .rintro⟨a,ha,rfl⟩;rw[qbd,qa6,qas]at ha;exact⟨a,ha.1,ha.2,rfl⟩
 .rintro⟨a,h1,h2,rfl⟩;exact⟨a,qbd.2 ⟨qa6.2 h1,qar h2⟩,rfl⟩
theorem Fine.arcs{g:Gr}(hg:g.Ok){cap x p:Nat->Int}(h:Fine g cap x p){m:Int}(hm:∀a,a<2*g.E->g.len p a<=m):Ss (Mz g cap x p) g.N m:=fun b hb=>by
 obtain⟨a,h1,h2,rfl⟩:=Kw.1 hb;exact⟨hg.u h1,hg.v h1,h.fit a h1 h2,hm a h1⟩
theorem reach{g:Gr}(hg:g.Ok){cap x p:Nat->Int}(h:Fine g cap x p){src:List Nat}{m:Int}{s:Lb}(D:Done (Mz g cap x p) src g.N m s){v:Nat}(hv:v<g.N)(hd:s.d v ≠ -1)(ho:0<BD g x v):∃w,w<g.N/\s.d w ≠ -1/\BD g x w<0:=by
 refine Classical.byContradiction fun hn=>?_;obtain⟨r,hr⟩:=qD (fun v=>if s.d v ≠ -1 then 1 else 0:Nat->Int);have hr1:∀{v:Nat},s.d v ≠ -1->r v=1:=fun{v} h=>by rw[hr];exact if_pos h
 have hr0:∀{v:Nat},s.d v = -1->r v=0:=fun{v} h=>by rw[hr];exact if_neg fun h2=>h2 h
 have h1:0<BC (fun v=>BD g x v*r v) g.N:=by
  refine Sr (j:=v) (fun w hw=>?_) hv (by rw[hr1 hd];omega)
  by_cases e:s.d w = -1
  .rw[hr0 e];omega
  .rw[hr1 e];have:=Int.not_lt.1 fun h5=>hn ⟨w,hw,e,h5⟩;omega
 rw[Vy g hg x r]at h1
 have h2:BC (fun i=>(r (g.t i) - r (g.f i))*x i) g.E<=BC (fun _=>0) g.E:=Ku fun i hi=>by
  obtain⟨hx0,hx1⟩:=h.in' i hi
  by_cases e1:s.d (g.t i) = -1
  .rw[hr0 e1]
   by_cases e2:s.d (g.f i) = -1
   .rw[hr0 e2];omega
   .rw[hr1 e2];omega
  .rw[hr1 e1]
   by_cases e2:s.d (g.f i) = -1
   .have e3:x i=0:=by
     rcases TG 0 (x i)with h5|h5
     .exfalso;obtain⟨a1,a2,a3⟩:=My g i;have:=D.arc _ (Kw.2 ⟨2*i+1,by omega,by unfold CB;rw[if_neg (by omega),show(2*i+1) / 2=i by omega];exact h5,rfl⟩) (by dsimp only;rw[a1];exact e1);dsimp only at this;rw[a2]at this;exact this.1 e2
     .omega
    rw[e3];omega
   .rw[hr1 e2];omega
 rw[Hh]at h2;omega
structure Way1(g:Gr)(cap x p:Nat->Int)(s:Lb)(a:Nat):Prop where
 lt:a<2*g.E
 room:0<CB cap x a
 du:s.d (g.u a) ≠ -1
 dv:s.d (g.v a) ≠ -1
 d:s.d (g.u a)+g.len p a=s.d (g.v a)
 h:s.h (g.u a)+1=s.h (g.v a)
def Bys(g:Gr)(cap x p:Nat->Int)(s:Lb)(by':Nat->Option Nat):Prop :=
 (∀v,s.d v = -1\/s.h v=0->by' v=none)/\∀v,s.d v ≠ -1->s.h v≠0->∃a,by' v=some a/\Way1 g cap x p s a/\g.v a=v
def Ei(by':Nat->Option Nat)(g:Gr):Nat->Nat->List Nat
 |0,_=>[]
 |k+1,v=>match by' v with
  |none=>[]
  |some a=>a::Ei by' g k (g.u a)
def N4(by':Nat->Option Nat)(g:Gr):Nat->Nat->Nat
 |0,v=>v
 |k+1,v=>match by' v with
  |none=>v
  |some a=>N4 by' g k (g.u a)
section
variable {g:Gr}{cap x p:Nat->Int}{s:Lb}{by':Nat->Option Nat}
theorem HW{k v a:Nat}(h:by' v=some a):Ei by' g (k+1) v=a::Ei by' g k (g.u a)/\N4 by' g (k+1) v=N4 by' g k (g.u a):=by
 constructor
 .show(match by' v with|none=>[]|some a=>a::Ei by' g k (g.u a))=_;rw[h]
 .show(match by' v with|none=>v|some a=>N4 by' g k (g.u a))=_;rw[h]
theorem KX(hB:Bys g cap x p s by'):∀{k v:Nat},s.d v ≠ -1->s.h v=k->(∀a∈Ei by' g k v,Way1 g cap x p s a/\s.h (g.v a)<=k)/\(Ei by' g k v).Pairwise (fun a b=>s.h (g.v b)<s.h (g.v a))/\s.d (N4 by' g k v) ≠ -1/\s.h (N4 by' g k v)=0
 |0,v,hd,hk=>⟨(fun a h=>by cases h),List.Pairwise.nil,hd,hk⟩
 |k+1,v,hd,hk=>by
  obtain⟨a,h1,h2,h3⟩:=hB.2 v hd (by omega);obtain⟨e1,e2⟩:=HW (g:=g) (k:=k) h1;have hh:=h2.h;rw[h3,hk]at hh;obtain⟨q1,q2,q3,q4⟩:=KX hB (k:=k) h2.du (by omega);rw[e1,e2];refine⟨fun b hb=>?_,List.Pairwise.cons (fun b hb=>?_) q2,q3,q4⟩
  .rcases qae.1 hb with rfl|hb
   .exact⟨h2,by rw[h3];omega⟩
   .exact⟨(q1 b hb).1,by have:=(q1 b hb).2;omega⟩
  .have:=(q1 b hb).2;rw[h3];omega
theorem Pm(hB:Bys g cap x p s by'){k v:Nat}(hd:s.d v ≠ -1)(hk:s.h v=k):(Ei by' g k v).Pairwise (fun a b=>a / 2≠b / 2):=by
 obtain⟨q1,q2,-,-⟩:=KX hB hd hk;refine List.Pairwise.imp_of_mem (R:=fun a b=>s.h (g.v b)<s.h (g.v a)) (fun{a b} ha hb hab he=>?_) q2;have wa:=(q1 a ha).1;have wb:=(q1 b hb).1;have h1:=wa.h;have h2:=wb.h
 by_cases e:a=b
 .rw[e]at hab;omega
 .have hm:a % 2≠b % 2:=by omega
  have e1:g.u a=g.v b:=by
   unfold Gr.u Gr.v;rw[he]
   split
   .rw[if_neg (by omega)]
   .rw[if_pos (by omega)]
  have e2:g.v a=g.u b:=by
   unfold Gr.u Gr.v;rw[he]
   split
   .rw[if_neg (by omega)]
   .rw[if_pos (by omega)]
  rw[e1]at h1;rw[e2]at h1 hab;omega
end
def Jk(m:Int)(x:Nat->Int)(a:Nat):Nat->Int:=fun i=>if i=a / 2 then(if a % 2=0 then x i+m else x i - m)else x i
def FC(m:Int)(x:Nat->Int)(l:List Nat):Nat->Int:=l.foldl (Jk m) x
theorem QD(g:Gr)(m:Int)(x:Nat->Int){a:Nat}(ha:a<2*g.E)(w:Nat):BD g (Jk m x a) w=BD g x w+m*(one (g.v a=w) - one (g.u a=w)):=by
 have hi:a / 2<g.E:=by omega
 have h1:BD g (Jk m x a) w=BC (fun i=>(one (g.t i=w) - one (g.f i=w))*x i+one (a / 2=i)*((one (g.t i=w) - one (g.f i=w))*(if a % 2=0 then m else -m))) g.E:=C3 fun i _=>by
  by_cases e:i=a / 2
  .have h1:Jk m x a i=if a % 2=0 then x i+m else x i - m:=if_pos e;have h2:one (a / 2=i)=1:=if_pos e.symm;rw[h1,h2]
   by_cases hp:a % 2=0
   .rw[if_pos hp,if_pos hp,Int.mul_add,Int.one_mul]
   .rw[if_neg hp,if_neg hp,Int.mul_sub,Int.one_mul,Int.mul_neg];omega
  .have h1:Jk m x a i=x i:=if_neg e;have h2:one (a / 2=i)=0:=if_neg (Ne.symm e);rw[h1,h2];omega
 rw[h1,NW,HM (fun i=>(one (g.t i=w) - one (g.f i=w))*(if a % 2=0 then m else -m)) hi];unfold BD Em Gr.u Gr.v
 split
 .rw[qcs m]
 .congr 1
  rw[Int.mul_neg,<-Int.neg_mul,qcs m];congr 1;omega
theorem N5(g:Gr)(m:Int){cap p:Nat->Int}{x0:Nat->Int}{s:Lb}{by':Nat->Option Nat}(hB:Bys g cap x0 p s by')(w:Nat):∀{k v:Nat} (x:Nat->Int),s.d v ≠ -1->s.h v=k->BD g (FC m x (Ei by' g k v)) w=BD g x w+m*(one (v=w) - one (N4 by' g k v=w))
 |0,v,x,_,_=>by
  show BD g x w=BD g x w+m*(one (v=w) - one (v=w));rw[Int.sub_self];omega
 |k+1,v,x,hd,hk=>by
  obtain⟨a,h1,h2,h3⟩:=hB.2 v hd (by omega);obtain⟨e1,e2⟩:=HW (g:=g) (k:=k) h1;have hh:=h2.h;rw[h3,hk]at hh;rw[e1,e2];show BD g (FC m (Jk m x a) (Ei by' g k (g.u a))) w=_;rw[N5 g m hB w (k:=k) (Jk m x a) h2.du (by omega),QD g m x h2.lt,h3,Int.add_assoc,<-Int.mul_add]
  congr 2;omega
theorem JA{m:Int}{x:Nat->Int}:∀{l:List Nat} {i:Nat},(∀a∈l,a / 2≠i)->FC m x l i=x i
 | [],i,_=>rfl
 |a::l,i,h=>by
  show FC m (Jk m x a) l i=_;rw[JA (l:=l) fun b hb=>h b (qah _ hb)];exact if_neg fun e=>h a (qai ..) e.symm
theorem Wz{m:Int}:∀{l:List Nat} {x:Nat->Int} {a:Nat},l.Pairwise (fun a b=>a / 2≠b / 2)->a∈l->FC m x l (a / 2)=if a % 2=0 then x (a / 2)+m else x (a / 2) - m
 |b::l,x,a,hp,ha=>by
  obtain⟨h1,h2⟩:=qbf.1 hp;show FC m (Jk m x b) l (a / 2)=_
  by_cases e:a=b
  .subst e;rw[JA fun c hc=>Ne.symm (h1 c hc)];exact if_pos U
  .have ha':=(qae.1 ha).resolve_left e;rw[Wz h2 ha'];have:Jk m x b (a / 2)=x (a / 2):=if_neg (Ne.symm (h1 a ha'));rw[this]
def Su(s:Lb)(D:Int)(v:Nat):Int:=if s.d v<0\/D<s.d v then D else s.d v
theorem XL{g:Gr}{cap x p:Nat->Int}(h:Fine g cap x p){src:List Nat}{m0:Int}{s:Lb}(D:Done (Mz g cap x p) src g.N m0 s){by':Nat->Option Nat}(hB:Bys g cap x p s by'){v:Nat}(hd:s.d v ≠ -1){m:Int}(hr:∀a∈Ei by' g (s.h v) v,m<=CB cap x a)(hm:0<=m:=by omega):
  Fine g cap (FC m x (Ei by' g (s.h v) v)) (fun w=>p w+Su s (s.d v) w):=by
 obtain⟨q1,-,-,-⟩:=KX hB hd rfl;have hpe:=Pm hB hd rfl;have hlow:=D.J.low;have hdv:=(hlow v).resolve_left hd
 have hlen:∀a,a<2*g.E->0<CB cap x a->0<=g.len p a+Su s (s.d v) (g.u a) - Su s (s.d v) (g.v a):=fun a ha hra=>by
  have h1:=h.fit a ha hra;have h2:=D.arc _ (Kw.2 ⟨a,ha,hra,rfl⟩);dsimp only at h2;have h3:=hlow (g.u a);have h4:=hlow (g.v a);unfold Su
  by_cases e:s.d (g.u a) = -1
  .rw[if_pos (.inl (by omega))]
   split <;> omega
  .obtain⟨h5,h6⟩:=h2 e
   split <;> split <;> omega
 have htight:∀a∈Ei by' g (s.h v) v,g.len p a+Su s (s.d v) (g.u a) - Su s (s.d v) (g.v a)=0:=fun a ha=>by
  -- all nodes of the way are no farther
  have hle:∀{k w:Nat},s.d w ≠ -1->s.h w=k->∀a∈Ei by' g k w,s.d (g.v a)<=s.d w:=fun{k}=>by
   induction k with
   |zero=>intro w _ _ a ha;cases ha
   |succ k ih =>
    intro w hw hk a ha;obtain⟨b,h1,h2,h3⟩:=hB.2 w hw (by omega);obtain⟨e1,-⟩:=HW (g:=g) (k:=k) h1;rw[e1]at ha;have hh:=h2.h;rw[h3,hk]at hh;have hfit:=h.fit b h2.lt h2.room;have hdd:=h2.d;rw[h3]at hdd
    rcases qae.1 ha with rfl|ha
    .rw[h3];exact qax _
    .have:=ih h2.du (by omega) a ha;omega
  have h1:=hle hd rfl a ha;have w1:=(q1 a ha).1;have h2:=(hlow (g.u a)).resolve_left w1.du;have h3:=(hlow (g.v a)).resolve_left w1.dv;have h4:=w1.d;have h5:=h.fit a w1.lt w1.room;unfold Su;rw[if_neg (by omega),if_neg (by omega)];omega
 have hone:∀i,i<g.E->(FC m x (Ei by' g (s.h v) v) i=x i/\∀a∈Ei by' g (s.h v) v,a / 2≠i)\/∃a∈Ei by' g (s.h v) v,a / 2=i:=fun i _=>by
  by_cases e:∃a∈Ei by' g (s.h v) v,a / 2=i
  .exact .inr e
  .have:∀a∈Ei by' g (s.h v) v,a / 2≠i:=fun a ha he=>e ⟨a,ha,he⟩
   exact .inl ⟨JA this,this⟩
 have hz:∀i,i<g.E->(∃a∈Ei by' g (s.h v) v,a / 2=i)->g.co i+(p (g.f i)+Su s (s.d v) (g.f i)) - (p (g.t i)+Su s (s.d v) (g.t i))=0:=fun i hi ⟨a,ha,he⟩=>by
  have h1:=htight a ha;unfold Gr.len at h1
  rcases(by omega:a=2*i\/a=2*i+1)with rfl|rfl
  .obtain⟨b,c,d⟩:=Kv g i;rw[b,c,d]at h1;omega
  .obtain⟨b,c,d⟩:=My g i;rw[b,c,d]at h1;omega
 refine Fine.of (fun i hi=>?_) (fun i hi hx=>?_) (fun i hi hx=>?_)
 .obtain⟨h1,h2⟩:=h.in' i hi
  rcases hone i hi with⟨e,_⟩|⟨a,ha,he⟩
  .rw[e];exact⟨h1,h2⟩
  .have h3:=hr a ha;have h4:=Wz (m:=m) (x:=x) hpe ha;rw[he]at h4;rw[h4];unfold CB at h3;rw[he]at h3
   split
   .rename_i e;rw[if_pos e]at h3;omega
   .rename_i e;rw[if_neg e]at h3;omega
 .rcases hone i hi with⟨e,_⟩|e
  .rw[e]at hx;have h1:=hlen (2*i) (by omega) (by unfold CB;rw[if_pos (by omega),show 2*i / 2=i by omega];omega);obtain⟨b,c,d⟩:=Kv g i;unfold Gr.len at h1;rw[b,c,d]at h1;omega
  .have:=hz i hi e;omega
 .rcases hone i hi with⟨e,_⟩|e
  .rw[e]at hx;have h1:=hlen (2*i+1) (by omega) (by unfold CB;rw[if_neg (by omega),show(2*i+1) / 2=i by omega];exact hx);obtain⟨b,c,d⟩:=My g i;unfold Gr.len at h1;rw[b,c,d]at h1;omega
  .have:=hz i hi e;omega
def Aas(x:Int):Int:=if 0<x then x else 0
def Im(g:Gr)(x:Nat->Int):Int:=BC (fun v=>Aas (BD g x v)) g.N
theorem TH{g:Gr}(hg:g.Ok){x:Nat->Int}(h:∀v,v<g.N->BD g x v<=0):∀v,v<g.N->BD g x v=0:=fun v hv=>by
 have h1:=over_all g hg x
 rcases TG (BD g x v) 0 with h2|h2
 .have h3:=Sr (f:=fun v => -BD g x v) (k:=g.N) (j:=v) (fun i hi=>by have:=h i hi;omega) hv (by omega);rw[NX,h1]at h3;omega
 .have:=h v hv;omega
theorem XM{g:Gr}{x x':Nat->Int}{u v:Nat}{m:Int}(hmu:m<=BD g x u)(hmv:m <= -BD g x v)(h:∀w,BD g x' w=BD g x w+m*(one (v=w) - one (u=w)))(hu:u<g.N:=by omega)(hm:0<m:=by omega):Im g x'+m<=Im g x:=by
 have hne:u≠v:=fun e=>by subst e;omega
 have h1:∀w,Aas (BD g x' w)<=Aas (BD g x w) - one (u=w)*m:=fun w=>by
  rw[h w];unfold one Aas
  by_cases e1:v=w
  .subst e1;rw[if_pos rfl,if_neg hne]
   split <;> split <;> omega
  .rw[if_neg e1]
   by_cases e2:u=w
   .subst e2;rw[if_pos rfl]
    split <;> split <;> omega
   .rw[if_neg e2]
    split <;> split <;> omega
 have h2:=Ku (k:=g.N) fun w _=>h1 w;rw[KW,HM (fun _=>m) hu]at h2;unfold Im;omega
theorem XN(g:Gr)(x:Nat->Int):0<=Im g x:=Ik fun i _=>by unfold Aas;split <;> omega
def JU(g:Gr)(cap' x p:Nat->Int)(i:Nat):Int:=if 2*x i<cap' i/\g.co i+p (g.f i) - p (g.t i)<0 then cap' i else 2*x i
theorem Pn{g:Gr}{cap cap' x p:Nat->Int}(h:Fine g cap x p)(hc:∀i,i<g.E->2*cap i<=cap' i/\cap' i<=2*cap i+1):Fine g cap' (JU g cap' x p) p:=by
 refine Fine.of (fun i hi=>?_) (fun i hi hx=>?_) (fun i hi hx=>?_)
 .obtain⟨h1,h2⟩:=h.in' i hi;obtain⟨h3,h4⟩:=hc i hi;unfold JU;split <;> omega
 .unfold JU at hx
  split at hx
  .omega
  .rename_i h5
   rcases TG (g.co i+p (g.f i) - p (g.t i)) 0 with h6|h6
   .exact absurd ⟨hx,h6⟩ h5
   .exact h6
 .unfold JU at hx
  split at hx
  .rename_i h5;omega
  .exact h.bwd hi (by omega)
def IV(g:Gr)(cap' x p:Nat->Int)(k i:Nat):Int:=if i<k then JU g cap' x p i else 2*x i
theorem Aat{g:Gr}{cap' x p:Nat->Int}{v:Nat}(h:BD g x v=0):BD g (IV g cap' x p 0) v=0:=by
 have h1:BD g (IV g cap' x p 0) v=BC (fun i=>2*((one (g.t i=v) - one (g.f i=v))*x i)) g.E:=C3 fun i _=>by
  unfold IV;rw[if_neg (by omega),Int.mul_left_comm]
 rw[h1,Sq];show 2*BD g x v=0;omega
theorem Aau{g:Gr}{cap' x p:Nat->Int}{k:Nat}(v:Nat)(hk:k<g.E:=by omega):BD g (IV g cap' x p (k+1)) v=BD g (IV g cap' x p k) v+(JU g cap' x p k - 2*x k)*(one (g.t k=v) - one (g.f k=v)):=by
 obtain⟨b,c,-⟩:=Kv g k;have h:=QD g (JU g cap' x p k - 2*x k) (IV g cap' x p k) (a:=2*k) (by omega) v;rw[b,c]at h;rw[<-h]
 congr 1
 funext i
 have m1:∀{k:Nat},i<k->IV g cap' x p k i=JU g cap' x p i:=fun h=>if_pos h;have m2:∀{k:Nat},¬i<k->IV g cap' x p k i=2*x i:=fun h=>if_neg h;unfold Jk;rw[show 2*k / 2=k by omega,if_pos (show 2*k % 2=0 by omega)]
 by_cases e:i=k
 .subst e;rw[if_pos rfl,m1 (by omega),m2 (by omega)];omega
 .rw[if_neg e]
  by_cases e2:i<k
  .rw[m1 (by omega),m1 e2]
  .rw[m2 (by omega),m2 e2]
theorem Aey{g:Gr}{cap' x p:Nat->Int}{i:Nat}(hi:i<g.E):IV g cap' x p g.E i=JU g cap' x p i:=if_pos hi
theorem LG{g:Gr}{x y:Nat->Int}(h:∀i,i<g.E->x i=y i)(v:Nat):BD g x v=BD g y v:=C3 fun i hi=>by rw[h i hi]
theorem Kx{g:Gr}{x:Nat->Int}{c:Int}(v:Nat):∀{k:Nat},(∀i,i<k->0<=x i/\x i<=c) -> -(k*c)<=Em g x k v/\Em g x k v<=k*c
 |0,_=>by show -(((0:Nat):Int)*c)<=0/\(0:Int)<=((0:Nat):Int)*c;omega
 |k+1,h=>by
  obtain⟨h1,h2⟩:=Kx (g:=g) v (k:=k) fun i hi=>h i (by omega);obtain⟨h3,h4⟩:=h k (by omega);have e:((k+1:Nat):Int)*c=k*c+c:=by rw[qde,Int.add_mul];simp
  show _<=Em g x k v+(one (g.t k=v) - one (g.f k=v))*x k/\Em g x k v+(one (g.t k=v) - one (g.f k=v))*x k<=_;rw[e];unfold one
  split <;> split <;> omega
theorem TI{g:Gr}{cap x p:Nat->Int}(h:Fine g cap x p):Fea (((List.range (2*g.E)).filter fun a=>decide (0<CB cap x a)).map fun a=>(g.u a,g.v a,g.c a)) p:=fun b hb=>by
 rw[qag]at hb;obtain⟨a,ha,rfl⟩:=hb;rw[qbd,qa6,qas]at ha;have:=h.fit a ha.1 ha.2;unfold Gr.len at this;dsimp only;omega
theorem Aav{g:Gr}{cap x p q:Nat->Int}(h:Fine g cap x p)(hq:Fea (((List.range (2*g.E)).filter fun a=>decide (0<CB cap x a)).map fun a=>(g.u a,g.v a,g.c a)) q):Fine g cap x q:=by
 refine⟨h.in',fun a ha hr=>?_⟩;have:=hq (g.u a,g.v a,g.c a) (qag.2 ⟨a,qbd.2 ⟨qa6.2 ha,qar hr⟩,rfl⟩);unfold Gr.len;dsimp only at this;omega
attribute [local irreducible] AG W Wq Wt
structure Ed where
 f:Int
 t:Int
 cap:Int
 cost:Int
def CJ(e:Ed):List Value:=[.int .i64 e.f,.int .i64 e.t,.int .i64 e.cap,.int .i64 e.cost]
theorem Io(e:Ed):∀v∈CJ e,AZ v=true:=fun v hv=>by
 simp only[CJ,qae,qaq,or_false]at hv
 rcases hv with rfl|rfl|rfl|rfl <;> rfl
def I64(x:Int):Prop := -9223372036854775808<=x/\x<=9223372036854775807
structure Ed.In(e:Ed):Prop where
 f:I64 e.f
 t:I64 e.t
 cap:I64 e.cap
 cost:I64 e.cost
def M1(N i:Int):Bool:=decide (0<=i) && decide (i<N)
def Gl(N:Int)(e:Ed):Bool:=M1 N e.f && (M1 N e.t && (decide (0<=e.cap) && (decide (e.cap<=4503599627370496) && (decide (-1000<=e.cost) && decide (e.cost<=1000)))))
def Hy(e:Ed):Nat:=e.cap.toNat*e.cost.natAbs
def Gm(es:List Ed):Nat:=(es.map Hy).sum
def C2(N:Int)(es:List Ed):Bool:=(decide (1<=N) && decide (N<=40)) && (decide (es.length<=200) && (es.all (Gl N) && decide (Gm es<=4611686018427387904)))
def DV(N:Int)(a:Option Addr)(n c:Nat):Value := .agg #[.int .i64 N,.slice a n c]
theorem W0(N:Int)(a:Option Addr)(n c:Nat)(i:Int)(w:World):Ret prog 191 #[DV N a n c,.int .i64 i] w fun v w'=>v=.bool (M1 N i)/\Ext [] w w':=by
 obtain⟨w0,rfl,H⟩:=qE w;refine Ay (fn:=f191) func191 U [DV N a n c,.int .i64 i] U (Ad (Br [.int .i64 N,.slice a n c] (.agg _) U U H ?_));rintro b2 w - H;refine Ai U (qA (Ad (Af U (CG U U (Aw U (AK 7 U ?_ ?_))))))
 .intro h1;replace h1:=AM h1;refine Af U (Ah Eg U (AB Cd U H at0 U (Bm U U (A6 U (.bool _) U (Ai U (qA (A7 (AD (v:=(.bool _)) U U U ?_))))))));exact⟨qaa Value.bool (by unfold M1;rw[qad];simp_all;try omega),H.ext⟩
 .intro h2;replace h2:=AN h2;refine Ag U (Ag U (Ag U (Ag U (A9 U (.bool _) U (Ai U (qA (A7 (AD (v:=(.bool _)) U U U ?_))))))));exact⟨qaa Value.bool (by unfold M1;rw[qad];simp_all;try omega),H.ext⟩
theorem Akw(x:Int)(w:World)(h1: -9223372036854775808<x:=by omega)(h2:x<=9223372036854775807:=by omega):Ret prog 168 #[.int .i64 x] w fun v w'=>v=.int .u64 (x.natAbs:Int)/\w=w':=by
 obtain⟨w0,rfl⟩:=qD w;refine Ay (fn:=f168) func168 U [.int .i64 x] U (Ad (Ae U (qA (Ad (Af U (Af U (L6 U U ?_)))))));refine KQ U U U ?_;rw[show max x (-x)=(x.natAbs:Int)by omega];refine DX U XJ Fk (Ae U (qA (A7 (AD (v:=(.int _ _)) U U U ?_))));exact⟨rfl,rfl⟩
theorem Aez(N:Int)(a:Option Addr)(n c:Nat)(e:Ed)(w:World):Ret prog 166 #[DV N a n c,.agg (CJ e).toArray] w fun v w'=>v=.bool (Gl N e)/\Ext [] w w':=by
 obtain⟨w0,rfl,H⟩:=qE w;refine Ay (fn:=f166) func166 U [DV N a n c,.agg (CJ e).toArray] U (Ad (Br [.int .i64 N,.slice a n c] (.agg _) U U H ?_));rintro b2 w - H;refine Br (CJ e) (.agg _) U U H ?_;rintro b3 w - H;refine Ai U (qA (Ao (A1 (Ao (Ad (Cj C7 Cp U H at1 U (Ah Fv U (AB Cd U H at0 U (Al qB (W0 N a n c e.f _) U ?_)))))))));rintro v w ⟨rfl,hx9⟩;replace H:=H.call hx9;refine BE U (Ai U (qA (Db 5 U ?_ ?_)))
 .intro h1;replace h1:=B7 h1;refine Aq (Aa (DH U (Ad (Ai U (qA (A7 (AF (Av (AD (v:=(.bool _)) U U U ?_)))))))));exact⟨qaa Value.bool (by unfold Gl;simp_all;try omega),H.ext⟩
 .intro h2;replace h2:=B9 h2;refine Ad (Cj C7 Cp U H at1 U (Ah Fw U (AB Cd U H at0 U (Al qB (W0 N a n c e.t _) U ?_))));rintro v w ⟨rfl,hx14⟩;replace H:=H.call hx14;refine BE U (Ai U (qA (Db 5 U ?_ ?_)))
  .intro h3;replace h3:=B7 h3;refine Aq (Aa (DH U (Ad (Ai U (qA (A7 (AF (Av (AD (v:=(.bool _)) U U U ?_)))))))));exact⟨qaa Value.bool (by unfold Gl;simp_all;try omega),H.ext⟩
  .intro h4;replace h4:=B9 h4;refine Ad (Ah E3 U (AB Bw U H at0 U (Bm U U (Ai U (qA (Db 5 U ?_ ?_))))))
   .intro h5;replace h5:=AM h5;refine Aq (Aa (DH U (Ad (Ai U (qA (A7 (AF (Av (AD (v:=(.bool _)) U U U ?_)))))))));exact⟨qaa Value.bool (by unfold Gl;simp_all;try omega),H.ext⟩
   .intro h6;replace h6:=AN h6;refine Ad (Ah E3 U (AB Bw U H at0 U (CD U U (Ai U (qA (Db 5 U ?_ ?_))))))
    .intro h7;replace h7:=AM h7;refine Aq (Aa (DH U (Ad (Ai U (qA (A7 (AF (Av (AD (v:=(.bool _)) U U U ?_)))))))));exact⟨qaa Value.bool (by unfold Gl;simp_all;try omega),H.ext⟩
    .intro h8;replace h8:=AN h8;refine Ad (Ah Gx U (AB Bw U H at0 U (Bm U U (Ai U (qA (Db 5 U ?_ ?_))))))
     .intro h9;replace h9:=AM h9;refine Aq (Aa (DH U (Ad (Ai U (qA (A7 (AF (Av (AD (v:=(.bool _)) U U U ?_)))))))));exact⟨qaa Value.bool (by unfold Gl;simp_all;try omega),H.ext⟩
     .intro h10;replace h10:=AN h10;refine A0 (Ah Gx U (AB Bw U H at0 U (CD U U (Ai U (qA (Db 5 U ?_ ?_))))))
      .intro h11;replace h11:=AM h11;refine Ad (Ai U (qA (A7 (AF (Av (AD (v:=(.bool _)) U U U ?_))))));exact⟨qaa Value.bool (by unfold Gl;simp_all;try omega),H.ext⟩
      .intro h12;replace h12:=AN h12;refine Aq (A8 (Aa (Ad (Ai U (qA (A7 (AD (v:=(.bool _)) U U U ?_)))))));exact⟨qaa Value.bool (by unfold Gl;simp_all;try omega),H.ext⟩
theorem Aaw(x y:Nat)(w:World)(hx:x<=4503599627370496:=by omega)(hy:y<=1000:=by omega):Ret prog 167 #[.int .u64 (x:Int),.int .u64 (y:Int)] w fun v w'=>v=.tuple #[.int .u64 0,.int .u64 ((x*y:Nat):Int)]/\w=w':=by
 obtain⟨w0,rfl⟩:=qD w;have hm:∀z:Nat,z &&& 4294967295=z % 4294967296:=fun z=>Nat.and_two_pow_sub_one_eq_mod z 32;obtain⟨x0,hx0⟩:=qD (x % 4294967296);obtain⟨x1,hx1⟩:=qD (x / 4294967296);have hp0:x0*y<=4294967296*1000:=Nat.mul_le_mul (by omega) hy;have hp1:x1*y<=1048576*1000:=Nat.mul_le_mul (by omega) hy;have hxy:x*y<=4503599627370496*1000:=Nat.mul_le_mul hx hy;refine Ay (fn:=f167) func167 U [.int .u64 (x:Int),.int .u64 (y:Int)] U (Ad (Ae U (Ae U (qA (Ad (Af U (J3 (b:=4294967295) U U U ?_)))))));rw[hm,<-hx0];refine Ae U (qA (Ad (Af U (Fq (n:=32) U U ?_))));rw[show x / 2 ^ 32=x1 from hx1.symm];refine Ae U (qA (Ad (Af U (J3 (b:=4294967295) U U U ?_))));rw[hm,show y % 4294967296=y by omega]
 refine Ae U (qA (Ad (Af U (Fq (n:=32) U U ?_))));rw[show y / 2 ^ 32=0 by omega];refine Ae U (qA (Ad (Af U (Af U (Ia U U U (qdg (by omega) (by omega)) (by rw[<-qdh];omega) ?_)))));rw[<-qdh];refine Ae U (qA (Ad (Af U (Af U (Ia U U U (qdg (by omega) (by omega)) (by rw[<-qdh];omega) ?_)))));rw[<-qdh];refine Af U (Fq (n:=32) U U ?_);refine Ee U U ?_;rw[<-qde];refine Ae U (qA (Ad (Af U (J3 (b:=4294967295) U U U ?_))));rw[hm];refine Ae U (qA (Ad (Af U (Fq (n:=32) U U ?_))));rw[show(x1*y+x0*y / 2 ^ 32) / 2 ^ 32=0 by omega]
 refine Ae U (qA (Ad (Af U (Af U (Af U (Ia U U U (by show(0:Int)<=(x0:Int)*((0:Nat):Int);omega) (by show(x0:Int)*((0:Nat):Int)<=_;omega) ?_))))));rw[show(x0:Int)*((0:Nat):Int)=0 by omega];refine Ee U U ?_;rw[show((((x1*y+x0*y / 2 ^ 32) % 4294967296:Nat):Int)+0)=(((x1*y+x0*y / 2 ^ 32) % 4294967296:Nat):Int)by omega];refine Ae U (qA (Ad (Af U (Af U (Ia U U U (by show(0:Int)<=(x1:Int)*((0:Nat):Int);omega) (by show(x1:Int)*((0:Nat):Int)<=_;omega) ?_)))));rw[show(x1:Int)*((0:Nat):Int)=0 by omega];refine Af U (Ee U U ?_);refine Af U (Fq (n:=32) U U ?_);rw[show(x1*y+x0*y / 2 ^ 32) % 4294967296 / 2 ^ 32=0 by omega];refine Ee U U (Ae U (qA (Ad (Af U (Af U (Ia U U U (qdg (by omega) (by omega)) (by rw[<-qdh];omega) ?_))))))
 rw[<-qdh];refine Ae U (qA (A7 (BR (v1:=(.int _ _)) (v2:=(.int _ _)) U U U U ?_)));exact⟨rfl,rfl⟩
theorem Vz{es:List Ed}{i:Nat}{e:Ed}(h:es[i]?=some e):Gm (es.take (i+1))=Gm (es.take i)+Hy e:=by
 unfold Gm;rw[Fc h,qay,List.sum_append];simp
theorem V0(es:List Ed)(i:Nat):Gm (es.take i)<=Gm es:=by
 unfold Gm;have h:(es.map Hy).sum=((es.take i).map Hy).sum+((es.drop i).map Hy).sum:=by rw[<-List.sum_append,<-qay,qbp]
 omega
theorem EP{N:Int}{e:Ed}(h:Gl N e=true):0<=e.f/\e.f<N/\0<=e.t/\e.t<N/\0<=e.cap/\e.cap<=4503599627370496 /\ -1000<=e.cost/\e.cost<=1000:=by
 unfold Gl M1 at h;simp only[qaf,qas]at h;omega
theorem Ew{α:Type}{p:α->Bool}{l:List α}{i:Nat}{x:α}(h:l[i]?=some x)(hp:p x=false):l.all p=false:=by
 rw[List.all_eq_false];exact⟨x,qac h,by rw[hp];simp⟩
theorem Fx{α:Type}{p:α->Bool}{l:List α}(h:∀k x,k<l.length->l[k]?=some x->p x=true):l.all p=true:=by
 rw[qau];intro x hx;obtain⟨k,hk⟩:=qcy hx;exact h k x (qbc.1 hk).1 hk
theorem M4(N:Int)(a:Option Addr)(n c:Nat)(es:List Ed)(w:World)(R:Rd w a 4 CJ es)(hn:es.length=n)(_:I64 N):Ret prog 142 #[DV N a n c] w fun v w'=>v=.bool (C2 N es)/\Ext [] w w':=by
 subst hn;obtain⟨w0,rfl,H⟩:=qE w;refine Ay (fn:=f142) func142 U [DV N a es.length c] U (Ad (Br [.int .i64 N,.slice a es.length c] (.agg _) U U H ?_));rintro b1 w - H;refine Ai U (qA (Ao (Ad (BV (α:=Unit) 4194048 (fun _=>[(21,.bool (!((decide (1<=N) && decide (N<=40)) && decide (es.length<=200))))]) (fun _ w'=>Ctx w0 [] w' [(b1,Bl 123 [.int .i64 N,.slice a es.length c])]) U ?_ ?_))))
 .refine Ah Eg U (AB Cd U H at0 U (Bm U U (Aw U (AK 11 U ?_ ?_))))
  .intro h1;replace h1:=AM h1;refine Ag U (Ag U (Ag U (A6 U (.bool _) U (Aw U (Ag U (Ag U (Ag U (Ag U (A6 U (.bool _) U ?_)))))))));refine Ab ?_;exact⟨rfl,(),rfl,⟨qaa Value.bool (by rw[qad];simp_all;try omega),trivial⟩,H⟩
  .intro h2;replace h2:=AN h2;refine Ah Eg U (AB Cd U H at0 U (CD U U (A9 U (.bool _) U (Aw U (AK 16 U ?_ ?_)))))
   .intro h3;replace h3:=AM h3;refine Ag U (Ag U (Ag U (Ag U (A6 U (.bool _) U (Ab ?_)))));exact⟨rfl,(),rfl,⟨qaa Value.bool (by rw[qad];simp_all;try omega),trivial⟩,H⟩
   .intro h4;replace h4:=AN h4;refine Ah CE U (AB D7 U H at0 U (Ba C8 U (CD U U (A9 U (.bool _) U (Ab ?_)))));exact⟨rfl,(),rfl,⟨qaa Value.bool (by rw[qad];simp_all;try omega),trivial⟩,H⟩
 rintro - j21 w H;refine An _ U ?_ ?_
 .intro h1;replace h1:=B7 h1;refine Ad (Ai U (qA (A7 (Av (AD (v:=(.bool _)) U U U ?_)))));exact⟨qaa Value.bool (by unfold C2;rw[<-qdo,show((decide (1<=N) && decide (N<=40)) && decide (es.length<=200))=false by simpa using h1];rfl),H.ext⟩
 .intro h1;replace h1:=B9 h1;have h1':((decide (1<=N) && decide (N<=40)) && decide (es.length<=200))=true:=by simpa using h1
  have hrN:C2 N es=(es.all (Gl N) && decide (Gm es<=4611686018427387904)):=by unfold C2;rw[<-qdo,h1'];rfl
  have hn2:es.length<=200:=by simp only[qaf,qas]at h1';omega
  refine Aq (Aa (Ad (Ae U (qA (Ao (Ad (Ah CE U (AB D7 U H at0 U (Ba C8 U (Af U ?_))))))))));refine qA (A1 (Bt 18014398475927788 (α:=Nat) (fun i=>[(25,.int .i64 (i:Int)),(3,.int .u64 ((4611686018427387904 - Gm (es.take i):Nat):Int))]) (fun i w'=>i<=es.length/\Ctx w0 [] w' [(b1,Bl 123 [.int .i64 N,.slice a es.length c])]/\Gm (es.take i)<=4611686018427387904/\∀(k:Nat) (e:Ed),k<i->es[k]?=some e->Gl N e=true) (fun i=>es.length - i) 0 U ?_ ?_ ?_))
  .exact⟨rfl,rfl,trivial⟩
  .exact⟨qaj _,H,qaj _,fun k e h=>absurd h (qa7 _)⟩
  .rintro i j w ⟨hi,H,hpr,hb⟩;refine Ad (Bm U U (qA (Ao (An _ U ?_ ?_))))
   .intro h2;replace h2:=AM h2;obtain⟨e,he⟩:=AA (l:=es) (i:=i);have hps:=Vz he;have hpt:=V0 es (i+1);refine Aq (Aa (Ao (A1 (Ad (Be R C8 C9 U U (by rfl) ?_)))));refine BQ _ GD C9 U U ((R.ext0 H.ext).row he U) (AU FZ H ?_);rintro b5 w - H;refine Bj C9 U U U (by exact Io _) H at0 U ?_;rintro w H;refine qA (Ao (Ad (Cj C7 Cp U H at1 U (Cj GD C9 U H at0 U (Al qB (Aez N a es.length c e _) U ?_)))));rintro v w ⟨rfl,hx31⟩;replace H:=H.call hx31;refine BE U (qA (An _ U ?_ ?_))
    .intro h3;replace h3:=B7 h3;refine Ad (Ai U (qA (A7 (Av (AF (Av (Av (AF (Av (AD (v:=(.bool _)) U U U ?_))))))))));exact⟨qaa Value.bool (by rw[hrN,Ew he (by simpa using h3)];rfl),H.ext⟩
    .intro h3;replace h3:=B9 h3;have h3':Gl N e=true:=by simpa using h3
     obtain⟨-,-,-,-,q1,q2,q3,q4⟩:=EP h3';obtain⟨cp,hcp⟩:∃cp:Nat,e.cap=(cp:Int):=⟨e.cap.toNat,by omega⟩;have hpe:Hy e=cp*e.cost.natAbs:=by unfold Hy;rw[hcp,qbe]
     have hpm:cp*e.cost.natAbs<=4503599627370496*1000:=Nat.mul_le_mul (by omega) (by omega);obtain⟨w5,rfl⟩:=qD w;have hb5:=H.get at0;have hk5:∀{z:World},Ext [] w5 z->z.heap[b5]?=some (Bl 158 (CJ e)):=fun{z} h=>by rw[h.block b5 (AY hb5) (by simp)];exact hb5
     have hD:=Ext.drew [] w5;refine Aq (Aa (Cq [([0,1,2,3,4],5),([],6),([7,8,9,10],11)] (fun z=>Ext [] w5 z) [] Bq (hD) ?_));refine AH U U ?_;refine Ap E3 U (B3 Bw U (fun _ hx=>(by rw[Aj (hk5 hx)];rfl)) ?_);rw[hcp];refine UV U U XJ Fk ?_;refine Ap Gx U (B3 Bw U (fun _ hx=>(by rw[Aj (hk5 hx)];rfl)) ?_);refine AR ?_;replace H:=H.drew;refine Al qB (Akw e.cost _) U ?_;rintro v w ⟨rfl,rfl⟩;refine Ab (BM (hD) (AH U U ?_));refine AR (Al qB (Aaw cp e.cost.natAbs _) U ?_);rintro v w ⟨rfl,rfl⟩;refine Ab (BM (hD) (AH U U ?_));refine DK U (Bv U U (Bv U U (KS U U (AR (Ae U (Ab (BM (hD) (BG (Ao (Ad ?_))))))))));refine Af U (Cv U U (Aw U (Af U (Af U (CD U U (A9 U (.bool _) U (qA (An _ U ?_ ?_))))))))
     .intro h4;replace h4:=AM h4;refine Ad (Ai U (qA (A7 (Av (AF (Av (Av (AF (Av (AD (v:=(.bool _)) U U U ?_))))))))));exact⟨qaa Value.bool (by rw[hrN,qbb (show ¬Gm es<=4611686018427387904 by omega),qdi]),H.ext⟩
     .intro h4;replace h4:=AN h4;refine Aq (Aa (A0 (Af U (Af U (L7 U U U ?_)))));refine Ae U (Ab (A8 (Aa (A0 (Az U U ?_)))));refine Af U (qA ?_);refine⟨i+1,rfl,⟨rfl,qaa (Value.int .u64) (by rw[hps,hpe];omega),trivial⟩,⟨by omega,H.tail,by rw[hps,hpe];omega,fun k y hk hy=>?_⟩,by omega⟩
      rcases qap k i with h7|h7
      .exact hb k y h7 hy
      .obtain rfl:k=i:=by omega
       rw[he]at hy;cases hy;exact h3'
   .intro h2;replace h2:=AN h2;refine Bp (Am (Am (AO (Aa (Ad (Ai U (qA (A7 (AD (v:=(.bool _)) U U U ?_)))))))));rw[qdt (by omega)]at hpr;exact⟨qaa Value.bool (by rw[hrN,Fx fun k x hk hx=>hb k x (by omega) hx,qar hpr];rfl),H.ext⟩
def Dj(x:Int):Value := .int .i64 x
abbrev I1(x:Int):List Value:=[.int .i64 x]
def inB(e:Ed)(x:Int):Bool:=decide (0<=x) && decide (x<=e.cap)
def Cn(N:Int)(es:List Ed)(fl:List Int):Bool:=(decide (fl.length=es.length) && C2 N es) && (List.zipWith inB es fl).all id
theorem Po{es:List Ed}{fl:List Int}{i:Nat}{e:Ed}{x:Int}(he:es[i]?=some e)(hx:fl[i]?=some x):(List.zipWith inB es fl)[i]?=some (inB e x):=by
 rw[qdx,he,hx]
theorem KY(N:Int)(a b:Option Addr)(n c m d:Nat)(es:List Ed)(fl:List Int)(w:World)(R:Rd w a 4 CJ es)(hn:es.length=n)(hN:I64 N)(Rf:Rd w b 1 I1 fl)(hm:fl.length=m)(hm2:m<=9223372036854775000) :
  Ret prog 176 #[DV N a n c,.slice b m d] w fun v w'=>v=.bool (Cn N es fl)/\Ext [] w w':=by
 subst hn hm;obtain⟨w0,rfl,H⟩:=qE w;refine Ay (fn:=f176) func176 U [DV N a es.length c,.slice b fl.length d] U (Ad (Br [.int .i64 N,.slice a es.length c] (.agg _) U U H ?_));rintro b2 w - H;refine Ai U (qA (Ao (Ad (BV (α:=Unit) 262016 (fun _=>[(17,.bool (!(decide (fl.length=es.length) && C2 N es)))]) (fun _ w'=>Ctx w0 [] w' [(b2,Bl 123 [.int .i64 N,.slice a es.length c])]) U ?_ ?_))))
 .refine A2 U (Ba AV U (Ah CE U (AB D7 U H at0 U (Ba C8 U (Cv U U (Aw U (AK 13 U ?_ ?_)))))))
  .intro h1;replace h1:=Cy h1;refine Ag U (Ag U (Ag U (A6 U (.bool _) U (Ab ?_))));exact⟨rfl,(),rfl,⟨qaa Value.bool (by rw[qad];simp_all;try omega),trivial⟩,H⟩
  .intro h2;replace h2:=Cz h2;refine Cj C7 Cp U H at0 U (Al qB (M4 N a es.length c es _ (R.ext0 H.ext) U hN) U ?_);rintro v w ⟨rfl,hx15⟩;replace H:=H.call hx15;refine BE U (A9 U (.bool _) U (Ab ?_));exact⟨rfl,(),rfl,⟨qaa Value.bool (by rw[qad];simp_all;try omega),trivial⟩,H⟩
 rintro - j17 w H;refine An _ U ?_ ?_
 .intro h1;replace h1:=B7 h1;refine Ad (Ai U (qA (A7 (Av (AD (v:=(.bool _)) U U U ?_)))));exact⟨qaa Value.bool (by unfold Cn;rw[show(decide (fl.length=es.length) && C2 N es)=false by simpa using h1];rfl),H.ext⟩
 .intro h1;replace h1:=B9 h1;have h1':(decide (fl.length=es.length) && C2 N es)=true:=by simpa using h1
  have hw:Cn N es fl=(List.zipWith inB es fl).all id:=by unfold Cn;rw[h1'];rfl
  have hle:fl.length=es.length:=by simp only[qaf,qas]at h1';exact h1'.1
  refine Aq (Aa (Ao (Ad (A2 U (Ba AV U (Af U (qA (A1 (Bt 274876858480 (α:=Nat) (fun i=>[(20,.int .i64 (i:Int))]) (fun i w'=>i<=fl.length/\Ctx w0 [] w' [(b2,Bl 123 [.int .i64 N,.slice a es.length c])]/\∀(k:Nat) (e:Ed) (x:Int),k<i->es[k]?=some e->fl[k]?=some x->inB e x=true) (fun i=>fl.length - i) 0 U ?_ ?_ ?_)))))))))
  .exact⟨rfl,trivial⟩
  .exact⟨qaj _,H,fun k e x h=>absurd h (qa7 _)⟩
  .rintro i j w ⟨hi,H,hb⟩;refine Ad (Bm U U (qA (Ao (An _ U ?_ ?_))))
   .intro h2;replace h2:=AM h2;obtain⟨e,he⟩:=AA (l:=es) (i:=i);obtain⟨x,hx⟩:=AA (l:=fl) (i:=i);refine Aq (Aa (Ao (A1 (Ad (Af U (Be Rf AV B2 U U (by rfl) ?_))))));refine Bc Bw U (((Rf.ext0 H.ext).fld hx U (j:=0) U)) ?_;refine Ae U (Ae U (qA (Ad (BV (α:=Unit) 137405399040 (fun _=>[(36,.bool (!inB e x))]) (fun _ w'=>Ctx w0 [] w' [(b2,Bl 123 [.int .i64 N,.slice a es.length c])]) U ?_ ?_))))
    .refine Af U (Bm U U (Aw U (AK 27 U ?_ ?_)))
     .intro h3;replace h3:=AM h3;refine Ag U (Ag U (Ag U (Ag U (Ag U (Ag U (Ag U (Ag U (A6 U (.bool _) U (Ab ?_)))))))));exact⟨rfl,(),rfl,⟨qaa Value.bool (by unfold inB;rw[qad];simp_all;try omega),trivial⟩,H⟩
     .intro h4;replace h4:=AN h4;refine Af U (Ah CE U (AB D7 U H at0 U (Af U (Be R C8 C9 U U (by rfl) ?_))));refine Ah E3 U (Bc Bw U (((R.ext0 H.ext).fld he U (j:=2) U)) ?_);refine CD U U (A9 U (.bool _) U (Ab ?_));exact⟨rfl,(),rfl,⟨qaa Value.bool (by unfold inB;rw[qad];simp_all;try omega),trivial⟩,H⟩
    rintro - j36 w H;refine An _ U ?_ ?_
    .intro h3;replace h3:=B7 h3;refine Ad (Ai U (qA (A7 (AF (Av (Av (AF (Av (AD (v:=(.bool _)) U U U ?_)))))))));exact⟨qaa Value.bool (by rw[hw,Ew (Po he hx) (show id (inB e x)=false by simpa using h3)]),H.ext⟩
    .intro h3;replace h3:=B9 h3;refine Aq (A8 (Aa (A0 (Az U U ?_))));refine Af U (qA ?_);refine⟨i+1,rfl,⟨rfl,trivial⟩,⟨by omega,H,fun k f y hk hf hy=>?_⟩,by omega⟩
     rcases qap k i with h7|h7
     .exact hb k f y h7 hf hy
     .obtain rfl:k=i:=by omega
      rw[he]at hf;rw[hx]at hy;cases hf;cases hy
      simpa using h3
   .intro h2;replace h2:=AN h2;refine Bp (Am (Am (AO (Aa (Ad (Ai U (qA (A7 (AD (v:=(.bool _)) U U U ?_)))))))));refine⟨qaa Value.bool ?_,H.ext⟩;rw[hw,Fx fun k x hk hx=>?_];rw[qcn]at hk;obtain⟨e,he⟩:=AA (l:=es) (i:=k);obtain⟨y,hy⟩:=AA (l:=fl) (i:=k);rw[Po he hy]at hx;cases hx;exact hb k e y (by omega) he hy
theorem Cx{N:Int}{es:List Ed}{fl:List Int}(h:Cn N es fl=true):fl.length=es.length/\C2 N es=true/\∀(i:Nat) (e:Ed) (x:Int),es[i]?=some e->fl[i]?=some x->0<=x/\x<=e.cap:=by
 unfold Cn at h;simp only[qaf,qas,qau]at h;refine⟨h.1.1,h.1.2,fun i e x he hx=>?_⟩;have:=h.2 _ (qac (Po he hx));unfold inB at this
 simpa using this
theorem CM{N:Int}{es:List Ed}(h:C2 N es=true):1<=N/\N<=40/\es.length<=200/\(∀e∈es,Gl N e=true)/\Gm es<=4611686018427387904:=by
 unfold C2 at h;simp only[qaf,qas,qau]at h;exact⟨h.1.1,h.1.2,h.2.1,h.2.2.1,h.2.2.2⟩
def LH(es:List Ed)(a:Int):Bool:=decide (0<=a) && decide (a<2*es.length)
theorem Aax(N:Int)(a:Option Addr)(n c:Nat)(es:List Ed)(hn:es.length=n)(hb:n<=1000000)(k:Int)(w:World):Ret prog 201 #[DV N a n c,.int .i64 k] w fun v w'=>v=.bool (LH es k)/\Ext [] w w':=by
 subst hn;obtain⟨w0,rfl,H⟩:=qE w;refine Ay (fn:=f201) func201 U [DV N a es.length c,.int .i64 k] U (Ad (Br [.int .i64 N,.slice a es.length c] (.agg _) U U H ?_));rintro b2 w - H;refine Ai U (qA (Ad (Af U (CG U U (Aw U (AK 7 U ?_ ?_))))))
 .intro h1;replace h1:=AM h1;refine Af U (Ah CE U (AB D7 U H at0 U (Ba C8 U (DL U U ?_))));refine Bm U U (A6 U (.bool _) U (Ai U (qA (A7 (AD (v:=(.bool _)) U U U ?_)))));exact⟨qaa Value.bool (by unfold LH;rw[qad];simp_all;try omega),H.ext⟩
 .intro h2;replace h2:=AN h2;refine Ag U (Ag U (Ag U (Ag U (Ag U (Ag U (A9 U (.bool _) U (Ai U (qA (A7 (AD (v:=(.bool _)) U U U ?_))))))))));exact⟨qaa Value.bool (by unfold LH;rw[qad];simp_all;try omega),H.ext⟩
theorem W1(k:Nat)(w:World)(hk:k<9223372036854775808:=by omega):Ret prog 217 #[.int .i64 (k:Int)] w fun v w'=>v=.bool (decide (k % 2=1))/\w=w':=by
 obtain⟨w0,rfl⟩:=qD w;refine Ay (fn:=f217) func217 U [.int .i64 (k:Int)] U (Ad (Ai U (qA (Ad (Af U (OM (b:=1) U U U (by omega) (by omega) ?_))))));rw[Nat.and_one_is_mod];refine BP U U (Ai U (qA (A7 (AD (v:=(.bool _)) U U U ?_))));exact⟨qaa Value.bool (by rw[qad];simp;omega),rfl⟩
def I8(e:Ed)(k:Nat):Int × Int × Int:=if k % 2=1 then(e.t,e.f,-e.cost)else(e.f,e.t,e.cost)
theorem Ae0(N:Int)(a:Option Addr)(n c:Nat)(es:List Ed)(w:World)(R:Rd w a 4 CJ es)(hn:es.length=n)(hb:n<=1000000)(k:Nat){e:Ed}(he:es[k / 2]?=some e)(hc: -9223372036854775808<e.cost/\e.cost<=9223372036854775807:=by omega):Ret prog 205 #[DV N a n c,.int .i64 (k:Int)] w fun v w'=>v=.tuple #[.int .i64 (I8 e k).1,.int .i64 (I8 e k).2.1,.int .i64 (I8 e k).2.2]/\Ext [] w w':=by
 subst hn;obtain⟨w0,rfl,H⟩:=qE w;have hk:=C0 he;refine Ay (fn:=f205) func205 U [DV N a es.length c,.int .i64 (k:Int)] U (Ad (Br [.int .i64 N,.slice a es.length c] (.agg _) U U H ?_));rintro b2 w - H;refine Ae U (Ae U (Ae U (qA (Ad (Ah CE U (AB D7 U H at0 U (Af U (J5 (n:=1) U U U ?_))))))));rw[show k / 2 ^ 1=k / 2 from rfl];refine Be R C8 C9 U U (by rfl) (BQ _ GD C9 U U ((R.ext0 H.ext).row he U) ?_);refine AU FZ H ?_;rintro b7 w - H;refine Bj C9 U U U (by exact Io _) H at0 U ?_;rintro w H;refine qA (Ao (Ad (Af U (Al qB (W1 k _) U ?_))));rintro v w ⟨rfl,rfl⟩;refine qA (An _ U ?_ ?_)
 .intro h1;refine Dw (fun x=>x=_) Bq U (A5 Fw U (Cc Cd U (by rintro _ rfl;exact H.drew) at0 U ?_));refine A5 Fv U (Cc Cd U (by rintro _ rfl;exact H.drew) at0 U ?_);refine A5 Gx U (Cc Bw U (by rintro _ rfl;exact H.drew) at0 U ?_);refine X0 U U (Dp U (Dp U (Dp U (BT ?_))));rintro _ rfl;replace H:=H.drew;refine A7 (Av (MR (v1:=(.int _ _)) (v2:=(.int _ _)) (v3:=(.int _ _)) U U U U U ?_));exact⟨by unfold I8;rw[if_pos (qba h1)],H.ext⟩
 .intro h1;refine Aq (Aa (Dw (fun x=>x=_) Bq U ?_));refine A5 Fv U (Cc Cd U (by rintro _ rfl;exact H.drew) at0 U ?_);refine A5 Fw U (Cc Cd U (by rintro _ rfl;exact H.drew) at0 U ?_);refine A5 Gx U (Cc Bw U (by rintro _ rfl;exact H.drew) at0 U ?_);refine Dp U (Dp U (Dp U (BT ?_)));rintro _ rfl;replace H:=H.drew;refine A7 (MR (v1:=(.int _ _)) (v2:=(.int _ _)) (v3:=(.int _ _)) U U U U U ?_);exact⟨by unfold I8;rw[if_neg (qbh h1)],H.ext⟩
def Gn(N:Int)(es:List Ed)(k:Int):Int × Int × Int:=if(LH es k && C2 N es)=true then I8 (es.getD (k.toNat / 2) ⟨0,0,0,0⟩) k.toNat else(0,0,0)
theorem Sv(N:Int)(a:Option Addr)(n c:Nat)(es:List Ed)(w:World)(R:Rd w a 4 CJ es)(hn:es.length=n)(hN:I64 N)(k:Int)(hb:n<=1000000:=by omega):Ret prog 178 #[DV N a n c,.int .i64 k] w fun v w'=>v=.tuple #[.int .i64 (Gn N es k).1,.int .i64 (Gn N es k).2.1,.int .i64 (Gn N es k).2.2]/\Ext [] w w':=by
 subst hn;obtain⟨w0,rfl,H⟩:=qE w;refine Ay (fn:=f178) func178 U [DV N a es.length c,.int .i64 k] U (Ad (Br [.int .i64 N,.slice a es.length c] (.agg _) U U H ?_));rintro b2 w - H;refine Ae U (Ae U (Ae U (qA (Ao (Ad (BV (α:=Unit) 65408 (fun _=>[(15,.bool (!(LH es k && C2 N es)))]) (fun _ w'=>Ctx w0 [] w' [(b2,Bl 123 [.int .i64 N,.slice a es.length c])]) U ?_ ?_))))))
 .refine Cj C7 Cp U H at0 U (Af U (Al qB (Aax N a es.length c es U hb k _) U ?_));rintro v w ⟨rfl,hx9⟩;replace H:=H.call hx9;refine BE U (Aw U (AK 11 U ?_ ?_))
  .intro h1;replace h1:=B7 h1;refine Ag U (Ag U (Ag U (A6 U (.bool _) U (Ab ?_))));exact⟨rfl,(),rfl,⟨qaa Value.bool (by rw[qad];simp_all),trivial⟩,H⟩
  .intro h2;replace h2:=B9 h2;refine Cj C7 Cp U H at0 U (Al qB (M4 N a es.length c es _ (R.ext0 H.ext) U hN) U ?_);rintro v w ⟨rfl,hx13⟩;replace H:=H.call hx13;refine BE U (A9 U (.bool _) U (Ab ?_));exact⟨rfl,(),rfl,⟨qaa Value.bool (by rw[qad];simp_all),trivial⟩,H⟩
 rintro - j15 w H;refine An _ U ?_ ?_
 .intro h1;replace h1:=B7 h1;refine Ad (Ae U (Ae U (Ae U (qA (A7 (Av (MR (v1:=(.int _ _)) (v2:=(.int _ _)) (v3:=(.int _ _)) U U U U U ?_)))))));exact⟨by unfold Gn;rw[if_neg (by rw[show(LH es k && C2 N es)=false by simpa using h1];simp)],H.ext⟩
 .intro h1;replace h1:=B9 h1;have h1':(LH es k && C2 N es)=true:=by simpa using h1
  have hk:0<=k/\k<2*es.length:=by
   simp only[qaf]at h1';have:=h1'.1;unfold LH at this
   simpa using this
  obtain⟨q,rfl⟩:∃q:Nat,k=(q:Int):=⟨k.toNat,by omega⟩;obtain⟨e,he⟩:=AA (l:=es) (i:=q / 2);have hee:=(CM (Bool.and_eq_true_iff.1 h1').2).2.2.2.1 e (qac he);have hco:=EP hee;have hE:Gn N es (q:Int)=I8 e q:=by unfold Gn;rw[if_pos h1',qbe,qbk,he];rfl
  rw[hE];refine Aq (Aa (Ad (Cj C7 Cp U H at0 U (Af U (Al qB (Ae0 N a es.length c es _ (R.ext0 H.ext) U hb q he) U ?_)))));rintro v w ⟨rfl,hx18⟩;replace H:=H.call hx18;refine AJ U U (AJ U U (AJ U U (Ae U (Ae U (Ae U (qA (A7 (MR (v1:=(.int _ _)) (v2:=(.int _ _)) (v3:=(.int _ _)) U U U U U ?_))))))));exact⟨rfl,H.ext⟩
def N6(e:Ed)(x:Int)(k:Nat):Int:=if k % 2=1 then x else e.cap - x
theorem Ae1(N:Int)(a b:Option Addr)(n c m d:Nat)(es:List Ed)(fl:List Int)(w:World)(R:Rd w a 4 CJ es)(hn:es.length=n)(hb:n<=1000000)(Rf:Rd w b 1 I1 fl)(hm:fl.length=m)(k:Nat){e:Ed}{x:Int}(he:es[k / 2]?=some e)(hx:fl[k / 2]?=some x)(hr: -9223372036854775808<=e.cap - x/\e.cap - x<=9223372036854775807:=by omega):
  Ret prog 202 #[DV N a n c,.slice b m d,.int .i64 (k:Int)] w fun v w'=>v=.int .i64 (N6 e x k)/\Ext [] w w':=by
 subst hn hm;obtain⟨w0,rfl,H⟩:=qE w;have hk:=C0 he;have hkx:=C0 hx;refine Ay (fn:=f202) func202 U [DV N a es.length c,.slice b fl.length d,.int .i64 (k:Int)] U (Ad (Br [.int .i64 N,.slice a es.length c] (.agg _) U U H ?_));rintro b3 w - H;refine Ae U (qA (Ad (A2 U (Af U (J5 (n:=1) U U U ?_)))));rw[show k / 2 ^ 1=k / 2 from rfl];refine Be Rf AV B2 U U (by rfl) (Bc Bw U (((Rf.ext0 H.ext).fld hx U (j:=0) U)) ?_);refine Ae U (qA (Ao (Ad (Af U (Al qB (W1 k _) U ?_)))));rintro v w ⟨rfl,rfl⟩;refine qA (An _ U ?_ ?_)
 .intro h1;refine Ad (Af U (Ae U (qA (A7 (Av (AD (v:=(.int _ _)) U U U ?_))))));exact⟨by unfold N6;rw[if_pos (qba h1)],H.ext⟩
 .intro h1;refine Aq (Aa (Ad (Ah CE U (AB D7 U H at0 U (Af U (J5 (n:=1) U U U ?_))))));rw[show k / 2 ^ 1=k / 2 from rfl];refine Be R C8 C9 U U (by rfl) (Ah E3 U (Bc Bw U (((R.ext0 H.ext).fld he U (j:=2) U)) ?_));refine Af U (Bu U U ?_);refine Ae U (qA (A7 (AD (v:=(.int _ _)) U U U ?_)));exact⟨by unfold N6;rw[if_neg (qbh h1)],H.ext⟩
def Lt(N:Int)(es:List Ed)(fl:List Int)(k:Int):Int:=if(LH es k && Cn N es fl)=true then N6 (es.getD (k.toNat / 2) ⟨0,0,0,0⟩) (fl.getD (k.toNat / 2) 0) k.toNat else 0
theorem Sx(N:Int)(a b:Option Addr)(n c m d:Nat)(es:List Ed)(fl:List Int)(w:World)(R:Rd w a 4 CJ es)(hn:es.length=n)(hN:I64 N)(Rf:Rd w b 1 I1 fl)(hm:fl.length=m)(k:Int)(hb:n<=1000000:=by omega)(hm2:m<=9223372036854775000:=by omega):Ret prog 173 #[DV N a n c,.slice b m d,.int .i64 k] w fun v w'=>v=.int .i64 (Lt N es fl k)/\Ext [] w w':=by
 subst hn hm;obtain⟨w0,rfl,H⟩:=qE w;refine Ay (fn:=f173) func173 U [DV N a es.length c,.slice b fl.length d,.int .i64 k] U (Ad (Br [.int .i64 N,.slice a es.length c] (.agg _) U U H ?_));rintro b3 w - H;refine Ae U (qA (Ao (Ad (BV (α:=Unit) 130944 (fun _=>[(16,.bool (!(LH es k && Cn N es fl)))]) (fun _ w'=>Ctx w0 [] w' [(b3,Bl 123 [.int .i64 N,.slice a es.length c])]) U ?_ ?_))))
 .refine Cj C7 Cp U H at0 U (Af U (Al qB (Aax N a es.length c es U hb k _) U ?_));rintro v w ⟨rfl,hx9⟩;replace H:=H.call hx9;refine BE U (Aw U (AK 11 U ?_ ?_))
  .intro h1;replace h1:=B7 h1;refine Ag U (Ag U (Ag U (Ag U (A6 U (.bool _) U (Ab ?_)))));exact⟨rfl,(),rfl,⟨qaa Value.bool (by rw[qad];simp_all),trivial⟩,H⟩
  .intro h2;replace h2:=B9 h2;refine Cj C7 Cp U H at0 U (A2 U (Al qB (KY N a b es.length c fl.length d es fl _ (R.ext0 H.ext) U hN (Rf.ext0 H.ext) U hm2) U ?_));rintro v w ⟨rfl,hx14⟩;replace H:=H.call hx14;refine BE U (A9 U (.bool _) U (Ab ?_));exact⟨rfl,(),rfl,⟨qaa Value.bool (by rw[qad];simp_all),trivial⟩,H⟩
 rintro - j16 w H;refine An _ U ?_ ?_
 .intro h1;replace h1:=B7 h1;refine Ad (Ae U (qA (A7 (Av (AD (v:=(.int _ _)) U U U ?_)))));exact⟨by unfold Lt;rw[if_neg (by rw[show(LH es k && Cn N es fl)=false by simpa using h1];simp)],H.ext⟩
 .intro h1;replace h1:=B9 h1;have h1':(LH es k && Cn N es fl)=true:=by simpa using h1
  have hk:0<=k/\k<2*es.length:=by
   simp only[qaf]at h1';have:=h1'.1;unfold LH at this
   simpa using this
  obtain⟨q,rfl⟩:∃q:Nat,k=(q:Int):=⟨k.toNat,by omega⟩;obtain⟨hl,hri,hin⟩:=Cx (Bool.and_eq_true_iff.1 h1').2;obtain⟨e,he⟩:=AA (l:=es) (i:=q / 2);obtain⟨x,hx⟩:=AA (l:=fl) (i:=q / 2);have hee:=(CM hri).2.2.2.1 e (qac he);have hco:=EP hee;have hxx:=hin _ e x he hx;have hE:Lt N es fl (q:Int)=N6 e x q:=by unfold Lt;rw[if_pos h1',qbe,qbk,he,qbk,hx];rfl
  rw[hE];refine Aq (Aa (Ad (Cj C7 Cp U H at0 U (A2 U (Af U (Al qB (Ae1 N a b es.length c fl.length d es fl _ (R.ext0 H.ext) U hb (Rf.ext0 H.ext) U q he hx) U ?_))))));rintro v w ⟨rfl,hx20⟩;replace H:=H.call hx20;refine Ae U (qA (A7 (AD (v:=(.int _ _)) U U U ?_)));exact⟨rfl,H.ext⟩
abbrev ptr(b:Nat):Value := .pointer (some ⟨b,0,none⟩)
def tab(f:Nat->Int)(n:Nat):List Int:=(List.range n).map f
theorem Di(f:Nat->Int)(n:Nat):(tab f n).length=n:=by unfold tab;simp
theorem BW{f:Nat->Int}{n i:Nat}(h:i<n):(tab f n)[i]?=some (f i):=DZ h
theorem Akx(l:List Int):tab (fun i=>l.getD i 0) l.length=l:=by
 apply qb0;intro j
 by_cases hj:j<l.length
 .rw[BW hj,qbk,qbz hj];rfl
 .rw[qa9 (by rw[Di];omega),qa9 (by omega)]
theorem Pp{f:Nat->Int}{n i:Nat}{x:Int}(h:(tab f n)[i]?=some x):i<n/\x=f i:=by
 have h1:=C0 h;rw[Di]at h1;rw[BW h1]at h;cases h;exact⟨h1,rfl⟩
abbrev BZ(f:Nat->Int)(n:Nat):List Value:=(List.range n).map fun i => .int .i64 (f i)
theorem XO(f:Nat->Int)(n:Nat):BZ f n=(tab f n).flatMap I1:=by
 unfold tab I1;rw[Zc,qbx];rfl
theorem C4{w:World}{b:Nat}{t:TypeId}{f:Nat->Int}{n:Nat}(h:w.heap[b]?=some (Bl t (BZ f n))):Rd w (some ⟨b,0,none⟩) 1 I1 (tab f n) :=
 Rd.of_bl (r:=[]) (enc:=I1) (xs:=tab f n) h (by rw[XO,qa3]) fun _ _=>rfl
def e0:Ed:=⟨0,0,0,0⟩
def grE(N:Int)(es:List Ed):Gr:=⟨N.toNat,es.length,fun i=>(es.getD i e0).f.toNat,fun i=>(es.getD i e0).t.toNat,fun i=>(es.getD i e0).cost⟩
def Ck(es:List Ed)(i:Nat):Int:=(es.getD i e0).cap
def flE(fl:List Int)(i:Nat):Int:=fl.getD i 0
theorem Bs{α:Type}{l:List α}{i:Nat}{x d:α}(h:l[i]?=some x):l.getD i d=x:=by rw[qbk,h];rfl
def N7(N:Int)(es:List Ed)(fl:List Int):List Int:=tab (BD (grE N es) (flE fl)) N.toNat
def Ga(N:Int)(es:List Ed)(fl:List Int):Bool:=Cn N es fl && (N7 N es fl).all fun x=>decide (x=0)
theorem Aay(N:Int)(a b:Option Addr)(n c m d:Nat)(w:World):Ret prog 204 #[DV N a n c,.slice b m d] w fun v w'=>∃b2 b3,v=.func (.func 218) #[] #[ptr b2,ptr b3]/\w'.heap[b2]?=some (Bl 123 [.int .i64 N,.slice a n c])/\w'.heap[b3]?=some (Bl 31 [.slice b m d])/\w.heap.size<=b2/\w.heap.size<=b3/\b2≠b3/\Ext [] w w':=by
 obtain⟨w0,rfl,H⟩:=qE w;refine Ay (fn:=f204) func204 U [DV N a n c,.slice b m d] U (Ad (Br [.int .i64 N,.slice a n c] (.agg _) U U H ?_));rintro b2 w - H;refine Br _ (.slice _ _ _) U U H ?_;rintro b3 w - H;refine CX U .nilFunc U (qA (Ad (Cf [.pointer _,.pointer _] U (CX U (.func _ _ _) U ?_))));refine qA (A7 (AD (v:=(.func _ _ _)) U U U ?_));have ho:∀x∈[(b3,Bl 31 [.slice b m d]),(b2,Bl 123 [.int .i64 N,.slice a n c])],w0.heap.size<=x.1:=fun x hx=>(H.own x hx).elim (fun h=>by cases h) id;exact⟨b2,b3,rfl,H.get at1,H.get at0,ho (b2,_) (qah _ (qai ..)),ho (b3,_) (qai ..),H.ne at1 at0 (by decide),H.ext⟩
def W3(p:Ed × Int):List Value:=[.agg (CJ p.1).toArray,.int .i64 p.2]
structure EdgeK(b2 b3:Nat)(N:Int)(a b:Option Addr)(n c m d:Nat)(es:List Ed)(fl:List Int)(w:World):Prop where
 h2:w.heap[b2]?=some (Bl 123 [.int .i64 N,.slice a n c])
 h3:w.heap[b3]?=some (Bl 31 [.slice b m d])
 R:Rd w a 4 CJ es
 Rf:Rd w b 1 I1 fl
theorem Ae2{α β:Type}{l:List α}{m:List β}{i:Nat}{x:α}{y:β}(h1:l[i]?=some x)(h2:m[i]?=some y):(l.zip m)[i]?=some (x,y):=by
 rw[qcz];exact⟨h1,h2⟩
theorem XP{b2 b3:Nat}{N:Int}{a b:Option Addr}{n c m d:Nat}{es:List Ed}{fl:List Int}(hn:es.length=n)(hm:fl.length=m)(hnm:n=m)(hn2:n<=1000000:=by omega):RZ prog 218 #[ptr b2,ptr b3] [] (fun _ w=>EdgeK b2 b3 N a b n c m d es fl w) ((es.zip fl).map W3):=by
 subst hn hm;intro l w J E hJ0 hJs hEs hK hY;obtain⟨M0,hJ0⟩:=hJ0;obtain⟨w0,rfl⟩:=qD w;have hlen:((es.zip fl).map W3).length=es.length:=by rw[qak,qco];omega
 refine Ay (fn:=f218) func218 U [.func (.yield l) #[] #[],.pointer (some ⟨b2,0,none⟩),.pointer (some ⟨b3,0,none⟩)] U ?_;have K0:=(hK _ _ _ hJ0).2;refine Ad (Ah CE U (Bc D7 U ((by rw[Aj K0.h2];rfl)) ?_));refine Ba C8 U (Af U (qA (A1 (Bt 8388144 (α:=Nat) (fun i=>[(9,.int .i64 (i:Int))]) (fun i w'=>i<=es.length/\∃M,J i M w') (fun i=>es.length - i) 0 U ?_ ?_ ?_))))
 .exact⟨rfl,trivial⟩
 .exact⟨qaj _,M0,hJ0⟩
 .rintro i j w ⟨hi,M,hJ⟩;have KK:=(hK _ _ _ hJ).2;have R:=KK.R;have Rf:=KK.Rf;obtain⟨w1,rfl,H⟩:=qE w;refine Ad (Bm U U (qA (Ao (An _ U ?_ ?_))))
  .intro h1;replace h1:=AM h1;obtain⟨e,he⟩:=AA (l:=es) (i:=i);obtain⟨x,hfx⟩:=AA (l:=fl) (i:=i);refine Aq (Aa (Ao (A1 (Ad (Af U (Be R C8 C9 U U (by rfl) ?_))))));refine BQ _ GD C9 U U ((R.ext0 H.ext).row he U) (AU FZ H ?_);rintro b5 w - H;refine Ae U (Bj C9 U U U (by exact Io _) H at0 U ?_);rintro w H;refine qA ?_;have hY1:=hY i (W3 (e,x)) M w.drew (by rw[qa1,Ae2 he hfx];rfl) (hJs _ _ _ _ hJ (H.ext.trans (Ext.drew [] w)));have KR:=(hK _ _ _ (hJs _ _ _ _ hJ (H.ext.trans (Ext.drew [] w)))).2;refine Ec 6 Bq U U (MV U (.func _ _ _) U ?_);refine Ox U GD C9 U (by rintro _ rfl;exact H.drew) at0 U ?_;refine BX BN U (by rintro _ rfl;exact((by rw[Aj KR.h3];rfl))) ?_;refine AX U (BH Rf AV B2 U U (by rfl) ?_)
   refine BX Bw U (by rintro _ rfl;exact((KR.Rf.fld hfx rfl (j:=0) rfl))) ?_;refine BT ?_;replace H:=H.drew;refine Hb (vs:=W3 (e,x)) U hY1 U ?_;rintro u w hu;obtain⟨bb,rfl,hu1,hu0⟩:∃bb,u=.bool bb/\(bb=true->∃M,J (i+1) M w)/\(bb=false->E w):=hu.elim (fun h=>⟨true,h.1,fun _=>let ⟨M',h1,_⟩:=h.2;⟨M',h1⟩,fun h=>by cases h⟩) (fun h=>⟨false,h.1,(fun h=>by cases h),fun _=>h.2⟩);refine BE U (qA (An _ U ?_ ?_))
   .intro h2;replace h2:=B7 h2;refine A7 (AF (Av (Av (AF (FW U U ?_)))));exact .inr (hu0 (by simpa using h2))
   .intro h2;replace h2:=B9 h2;refine Aq (A8 (Aa (A0 (Az U U ?_))));refine Af U (qA ?_);exact⟨i+1,rfl,⟨rfl,trivial⟩,⟨by omega,hu1 (by simpa using h2)⟩,by omega⟩
  .intro h1;replace h1:=AN h1;refine Bp (Am (Am (AO (CO U U ?_))));obtain rfl:i=es.length:=by omega
   exact .inl ⟨M,by rw[hlen];exact hJ⟩
theorem Gz{p:Prop}[Decidable p](h:p):one p=1:=if_pos h
theorem FN{p:Prop}[Decidable p](h:¬p):one p=0:=if_neg h
theorem Dk(p:Nat->Int)(v:Nat)(x:Int):upd p v x v=x:=if_pos rfl
theorem Er{p:Nat->Int}{v:Nat}{x:Int}{u:Nat}(h:u≠v):upd p v x u=p u:=if_neg h
theorem GG(g:Gr)(x:Nat->Int)(k v:Nat):Em g x (k+1) v=Em g x k v+(one (g.t k=v) - one (g.f k=v))*x k:=rfl
theorem Ae3(N:Int)(a b:Option Addr)(n c m d:Nat)(es:List Ed)(fl:List Int)(w:World)(R:Rd w a 4 CJ es)(hn:es.length=n)(hN:I64 N)(Rf:Rd w b 1 I1 fl)(hm:fl.length=m)(hm2:m<=9223372036854775000) :
  Ret prog 177 #[DV N a n c,.slice b m d] w fun v w'=>(Cn N es fl=false->v=.slice none 0 0)/\(Cn N es fl=true->∃b',v=.slice (some ⟨b',0,none⟩) N.toNat N.toNat/\w'.heap[b']?=some (Bl 2 (BZ (BD (grE N es) (flE fl)) N.toNat))/\w.heap.size<=b')/\Ext [] w w':=by
 subst hn hm;obtain⟨w0,rfl,H⟩:=qE w;refine HU (fn:=f177) func177 U [DV N a es.length c,.slice b fl.length d] U (Ad (Br [.int .i64 N,.slice a es.length c] (.agg _) U U H ?_));rintro b2 w - H;refine A4 U (qA (Ao (Ad (Cj C7 Cp U H at0 U (A2 U (Al qB (KY N a b es.length c fl.length d es fl _ (R.ext0 H.ext) U hN (Rf.ext0 H.ext) U hm2) U ?_))))));rintro v w ⟨rfl,hx10⟩;replace H:=H.call hx10;refine BE U (qA (An _ U ?_ ?_))
 .intro h1;replace h1:=B7 h1;refine Ad (A4 U (qA (A7 (Av (Mj (v:=(.slice _ _ _)) U U ?_)))));have h1':Cn N es fl=false:=by simpa using h1
  exact⟨fun _=>rfl,fun h=>(by rw[h1']at h;cases h),H.ext⟩
 .intro h1;replace h1:=B9 h1;have h1':Cn N es fl=true:=by simpa using h1
  obtain⟨hl,hr,hin⟩:=Cx h1';obtain⟨hN1,hN40,hn200,hed,-⟩:=CM hr;obtain⟨nn,rfl⟩:∃nn:Nat,N=(nn:Int):=⟨N.toNat,by omega⟩;obtain⟨g,hg⟩:=qD (grE (nn:Int) es);obtain⟨x,hx⟩:=qD (flE fl);have hgE:g.E=es.length:=by rw[hg];rfl
  refine Aq (Aa (Ad (Ah Eg U (AB Cd U H at0 U (HI AV B2 LB E5 U U H ?_)))));rintro b14 w - H;rw[show((nn:Int)).toNat=nn from rfl,Fe]at H;refine AU Ahn H ?_;rintro b5 w - H;refine Ct (.slice _ _ _) Ahl U U U H at0 (by decide) ?_;rintro w H;refine qA (Ao (Ad (Cj C7 Cp U H at2 U (A2 U ?_))));have hlt:=H.lt (k:=0) rfl;have hlt1:=H.lt (k:=1) rfl;refine Al qB (Aay (nn:Int) a b es.length c fl.length d _) U ?_;rintro v w ⟨x2,x3,rfl,hb2,hb3,hs2,hs3,hne,hx17⟩;have H3:=(H.callAdd hx17 hb2 hs2).add hb3 (.inr (qa0 H.size hs3)) (fun y hy=>(qae.1 hy).elim (fun h=>by rw[h];exact hne) fun hy=>Nat.ne_of_lt (qaw (AY (H.blk y hy)) hs3));refine qA (A1 ?_);obtain⟨ws,rfl⟩:=qD w;have hk3:=H3.lt (k:=0) rfl;have hk2:=H3.lt (k:=1) rfl;have hk5:=H3.lt (k:=2) rfl;have hk14:=H3.lt (k:=3) rfl
  have hkb:=H3.lt (k:=4) rfl;have hs0:=H3.size;replace H3:=H3.perm (qbq (l₁:=[_,_,_]) (l₂:=[_]))
  refine NT (gf:=218) U qB (XP (b2:=x2) (b3:=x3) (N:=(nn:Int)) (a:=a) (b:=b) (c:=c) (d:=d) (es:=es) (fl:=fl) U U hl.symm) (by kernel_rfl) (by kernel_rfl) (fun v hv=>by obtain⟨p,-,rfl⟩:=qag.1 hv;rfl)
   (fun i M w'=>(M=fun y=>y=b14)/\Ctx w0 [] w' [(b14,Bl 2 (BZ (Em g x i) nn)),(x3,Bl 31 [.slice b fl.length d]),(x2,Bl 123 [.int .i64 (nn:Int),.slice a es.length c]),(b5,Bl 31 [.slice (some ⟨b14,0,none⟩) nn nn]),(b2,Bl 123 [.int .i64 (nn:Int),.slice a es.length c])]) (fun _=>False) (by simp)
   (fun w2 hx2 _=>⟨_,rfl,H3.call hx2⟩) (fun i M w' w'' hJ hx=>⟨hJ.1,hJ.2.step hx (fun y hy=>?_) fun z hz => .inr ?_⟩) (fun _ _ h _=>h) (fun i M w' hJ=>⟨fun y hy=>?_,hJ.2.get at2,hJ.2.get at1,R.ext0 hJ.2.ext,Rf.ext0 hJ.2.ext⟩) ?_ ?_ (fun _ h _=>h.elim)
  .simp only[qae,qaq,or_false]at hy |-
   rcases hy with rfl|rfl|rfl|rfl|rfl <;> (dsimp only;omega)
  .simp only[qae,qaq,or_false]at hz;omega
  .rw[hJ.1]at hy;subst hy;exact⟨AY (hJ.2.get at0),by omega,by omega⟩
  .rintro i v _ w hxv ⟨rfl,HJ⟩ hsz;rw[qa1]at hxv;obtain⟨⟨e,xx⟩,hez,rfl⟩:=qc0.1 hxv;obtain⟨he,hfx⟩:=qcz.1 hez;have hi:=C0 he;obtain⟨hf0,hfN,ht0,htN,-⟩:=EP (hed e (qac he));obtain⟨fn,hfn⟩:∃fn:Nat,e.f=fn:=⟨e.f.toNat,by omega⟩;obtain⟨tn,htn⟩:∃tn:Nat,e.t=tn:=⟨e.t.toNat,by omega⟩;have hgf:g.f i=fn:=by rw[hg];show((es.getD i e0).f.toNat)=fn;rw[Bs he,hfn];rfl
   have hgt:g.t i=tn:=by rw[hg];show((es.getD i e0).t.toNat)=tn;rw[Bs he,htn];rfl
   have hxi:x i=xx:=by rw[hx];exact Bs hfx
   have hxb:∀j,j<i+1->0<=x j/\x j<=4503599627370496:=fun j hj=>by
    obtain⟨e',he'⟩:=AA (l:=es) (i:=j);obtain⟨y,hy⟩:=AA (l:=fl) (i:=j);have h3:=hin j e' y he' hy;have h4:=EP (hed e' (qac he'));rw[hx];show 0<=fl.getD j 0/\fl.getD j 0<=4503599627370496;rw[Bs hy];omega
   have hbf:=Kx (g:=g) (x:=x) fn (k:=i) fun j hj=>hxb j (by omega);have hbt:=Kx (g:=g) (x:=x) tn (k:=i) fun j hj=>hxb j (by omega);have hxx:=hxb i (by omega);rw[hxi]at hxx;obtain⟨o',ho'⟩:∃o',o'=upd (Em g x i) fn (Em g x i fn - xx):=⟨_,rfl⟩;have hof:o' fn=Em g x i fn - xx:=by rw[ho',Dk]
   have hon:∀q,q≠fn->o' q=Em g x i q:=fun q hq=>by rw[ho',Er hq]
   have hot : -(201*4503599627370496)<=o' tn/\o' tn<=201*4503599627370496:=by
    by_cases h:tn=fn
    .rw[h,hof];omega
    .rw[hon tn h];omega
   have hst:∀q,Em g x (i+1) q=upd o' tn (o' tn+xx) q:=fun q=>by
    rw[GG,hgf,hgt,hxi]
    by_cases h1:q=tn
    .subst h1;rw[Dk,Gz rfl]
     by_cases h2:fn=q
     .subst h2;rw[Gz rfl,hof];omega
     .rw[FN h2,hon q (Ne.symm h2)];omega
    .rw[Er h1,FN (Ne.symm h1)]
     by_cases h2:fn=q
     .subst h2;rw[Gz rfl,hof];omega
     .rw[FN h2,hon q (Ne.symm h2)];omega
   obtain⟨w1,rfl,H⟩:=qE w;refine Ad (AU FZ H ?_);rintro b6 w - H;refine Bj C9 U U U (by exact Io _) H at0 U ?_;rintro w H;refine qA (A0 (Ae U (Ab ?_)));refine⟨H.ext,fun wB hxB=>?_⟩;have hb6:=(H.own _ (qai ..)).elim (fun h=>by cases h) id
   have HB:=((HJ.callAdd H.ext (H.get at0) hb6).step hxB (fun y hy=>by
    simp only[qae,qaq,or_false]at hy |-
    rcases hy with rfl|rfl|rfl|rfl|rfl|rfl <;> (dsimp only;omega)) (fun z hz => .inr (by rw[qab.1 hz];omega))).perm (List.Perm.swap _ _ _)
   obtain⟨w2,rfl⟩:=qD wB;have hb6B:=HB.get at1;have hb5B:=HB.get at4;have hn6:b6∉[b14]:=by rw[qab];omega
   have hn5:b5∉[b14]:=by rw[qab];exact HB.ne at4 at0 (by decide)
   have H:=Ctx.lend (L1:=[_]) (L2:=_) HB;dsimp only[List.map]at H;refine A1 (Ad (Bc BN U ((H.old (Aj hb5B _) hn5)) ?_));refine Ah Fv U (Bc Cd U ((H.old (Aj hb6B _) hn6)) ?_);refine Bn AV B2 U U (RW fn _ U Bw U H at0 (by rw[hfn];simp) U ?_);refine Af U (Bu U U ?_);refine Bn AV B2 U U (Ch fn (fun q => .int .i64 (o' q)) (.int _ _) B2 U U U H at0 (by rw[hfn];simp) (by rw[hof]) (fun q _ hq=>by rw[hon q hq]) ?_);rintro w H;refine qA (A0 (Bc BN U ((H.old (Aj hb5B _) hn5)) ?_));refine Ah Fw U (Bc Cd U ((H.old (Aj hb6B _) hn6)) ?_);refine Bn AV B2 U U (RW tn _ U Bw U H at0 (by rw[htn];simp) U ?_);refine Af U (Az U U ?_);refine Bn AV B2 U U ?_
   refine Ch tn (fun q => .int .i64 (Em g x (i+1) q)) (.int _ _) B2 U U U H at0 (by rw[htn];simp) (by rw[hst,Dk]) (fun q _ hq=>by rw[hst,Er hq]) ?_;rintro w H;refine Ab (A8 ?_);exact⟨_,⟨rfl,((Ctx.back (L1:=[_]) (L1':=[_]) HB H).perm (List.Perm.swap _ _ _)).tail⟩,fun y h => .inl h,[b14],H.ext,fun y hy => .inl (qab.1 hy)⟩
  .rintro M w ⟨-,HJ⟩ hD;rw[qak,qco,hl,Nat.min_self]at HJ;replace H:=HJ;refine A8 (Aa (Ad (AB BN U H at3 U (A4 U (qA (A7 (Mj (v:=(.slice _ _ _)) U U (HV hD U fun wF hxF=>?_))))))));refine⟨fun h=>(by rw[h1']at h;cases h),fun _=>⟨b14,rfl,?_,?_⟩,H.ext.then hxF fun z hz => .inr (by rw[qab.1 hz];omega)⟩
   .rw[hxF.block b14 (AY (H.get at0)) (by rw[qab];omega)];have h3:=H.get at0;rw[show BD (grE (nn:Int) es) (flE fl)=Em g x es.length by rw[hg,hx];rfl];exact h3
   .exact(H.own (b14,_) (qac (i:=0) U)).elim (fun h=>by cases h) id
theorem Aaz(N:Int)(a b:Option Addr)(n c m d:Nat)(es:List Ed)(fl:List Int)(w:World)(R:Rd w a 4 CJ es)(hn:es.length=n)(hN:I64 N)(Rf:Rd w b 1 I1 fl)(hm:fl.length=m)(hm2:m<=9223372036854775000) :
  Ret prog 148 #[DV N a n c,.slice b m d] w fun v w'=>v=.bool (Ga N es fl)/\Ext [] w w':=by
 subst hn hm;obtain⟨w0,rfl,H⟩:=qE w;refine Ay (fn:=f148) func148 U [DV N a es.length c,.slice b fl.length d] U (Ad (Br [.int .i64 N,.slice a es.length c] (.agg _) U U H ?_));rintro b2 w - H;refine Ai U (qA (Ao (Ad (Cj C7 Cp U H at0 U (A2 U (Al qB (KY N a b es.length c fl.length d es fl _ (R.ext0 H.ext) U hN (Rf.ext0 H.ext) U hm2) U ?_))))));rintro v w ⟨rfl,hx9⟩;replace H:=H.call hx9;refine BE U (qA (An _ U ?_ ?_))
 .intro h1;replace h1:=B7 h1;refine Ad (Ai U (qA (A7 (Av (AD (v:=(.bool _)) U U U ?_)))));have h1':Cn N es fl=false:=by simpa using h1
  exact⟨qaa Value.bool (by unfold Ga;rw[h1'];rfl),H.ext⟩
 .intro h1;replace h1:=B9 h1;have h1':Cn N es fl=true:=by simpa using h1
  have hfN:Ga N es fl=(N7 N es fl).all fun x=>decide (x=0):=by unfold Ga;rw[h1'];rfl
  obtain⟨hN1,hN40,-⟩:=CM (Cx h1').2.1;obtain⟨nn,rfl⟩:∃nn:Nat,N=(nn:Int):=⟨N.toNat,by omega⟩;refine Aq (Aa (Ao (Ad (Cj C7 Cp U H at0 U (A2 U (Al qB (Ae3 (nn:Int) a b es.length c fl.length d es fl _ (R.ext0 H.ext) U hN (Rf.ext0 H.ext) U hm2) U ?_))))));rintro v w ⟨-,hv,hx13⟩;obtain⟨b13,rfl,hb13,hs13⟩:=hv h1';replace H:=H.call hx13;have R7:=C4 hb13;rw[show((nn:Int)).toNat=nn from rfl]at R7 |-;refine Ba AV U (Af U (qA (A1 ?_)));have hov:N7 (nn:Int) es fl=tab (BD (grE (nn:Int) es) (flE fl)) nn:=rfl;rw[<-hov]at R7;have hlen:(N7 (nn:Int) es fl).length=nn:=by rw[hov,Di]
  obtain⟨w7,rfl⟩:=qD w;refine Bt 4161616 (α:=Nat) (fun i=>[(15,.int .i64 (i:Int))]) (fun i w'=>i<=nn/\Ext [] w7 w'/\Ctx w0 [] w' [(b2,Bl 123 [.int .i64 (nn:Int),.slice a es.length c])]/\∀(k:Nat) (x:Int),k<i->(N7 (nn:Int) es fl)[k]?=some x->decide (x=0)=true) (fun i=>nn - i) 0 U ?_ ?_ ?_
  .exact⟨rfl,trivial⟩
  .exact⟨qaj _,.refl _ _,H,fun k x h=>absurd h (qa7 _)⟩
  .rintro i j w ⟨hi,hx7,H,hb⟩;refine Ad (Bm U U (qA (Ao (An _ U ?_ ?_))))
   .intro h2;replace h2:=AM h2;obtain⟨x,h7x⟩:=AA (l:=N7 (nn:Int) es fl) (i:=i);refine Aq (Aa (Ao (A1 (Ad (Be R7 AV B2 U U (by omega) ?_)))));refine Bc Bw U (((R7.ext0 hx7).fld h7x U (j:=0) U)) ?_;refine Ae U (qA (Ad (Af U (Cv U U (qA (An _ U ?_ ?_))))))
    .intro h3;replace h3:=Cy h3;refine Ad (Ai U (qA (A7 (AF (Av (Av (AF (Av (AD (v:=(.bool _)) U U U ?_)))))))));exact⟨qaa Value.bool (by rw[hfN,Ew h7x (qbb (by simpa using h3))]),H.ext⟩
    .intro h3;replace h3:=Cz h3;refine Aq (A8 (Aa (A0 (Az U U ?_))));refine Af U (qA ?_);refine⟨i+1,rfl,⟨rfl,trivial⟩,⟨by omega,hx7,H,fun k y hk hy=>?_⟩,by omega⟩
     rcases qap k i with h7|h7
     .exact hb k y h7 hy
     .obtain rfl:k=i:=by omega
      rw[h7x]at hy;cases hy
      simpa using h3
   .intro h2;replace h2:=AN h2;refine Bp (Am (Am (AO (Aa (Ad (Ai U (qA (A7 (AD (v:=(.bool _)) U U U ?_)))))))));exact⟨qaa Value.bool (by rw[hfN,Fx fun k x hk hx=>hb k x (by omega) hx]),H.ext⟩
theorem EX{N:Int}{es:List Ed}{fl:List Int}(h:Ga N es fl=true):Cn N es fl=true/\∀v,v<N.toNat->BD (grE N es) (flE fl) v=0:=by
 unfold Ga N7 at h;rw[qaf]at h;refine⟨h.1,fun v hv=>?_⟩;have h2:=qau.1 h.2 _ (qac (BW hv))
 simpa using h2
end Go.Proofs.YtffclglpjlcojaaGreat
