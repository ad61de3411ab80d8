/- Part 4 of the proof. -/
import Derived.Test.YtdagmpmdcgedcaaGreatProg
import Derived.KernelRfl
import Derived.Test.YtdagmpmdcgedcaaGreatPart1
import Derived.Test.YtdagmpmdcgedcaaGreatPart2
import Derived.Test.YtdagmpmdcgedcaaGreatPart3
/- Closed facts on the translation of this seat: sizes, zero values, fields; printed by program. -/
namespace Go.Proofs.YtdagmpmdcgedcaaGreat
open Go.GV
theorem FA:Ds Tryz.prog 101=some false:=by kernel_rfl
theorem PF:Ds Tryz.prog 103=some false:=by kernel_rfl
theorem Ac8:Ds Tryz.prog 111=some false:=by kernel_rfl
theorem EN:Ds Tryz.prog 163=some false:=by kernel_rfl
theorem Bw:Ds Tryz.prog 2=some false:=by kernel_rfl
theorem Ac9:Ds Tryz.prog 223=some true:=by kernel_rfl
theorem Acb:Ds Tryz.prog 23=some false:=by kernel_rfl
theorem Ew:Ds Tryz.prog 252=some false:=by kernel_rfl
theorem Hz:Ds Tryz.prog 26=some false:=by kernel_rfl
theorem Xi:Ds Tryz.prog 27=some false:=by kernel_rfl
theorem B2:Ds Tryz.prog 28=some false:=by kernel_rfl
theorem Kk:Ds Tryz.prog 286=some false:=by kernel_rfl
theorem Acc:Ds Tryz.prog 29=some false:=by kernel_rfl
theorem HO:Ds Tryz.prog 291=some false:=by kernel_rfl
theorem PG:Ds Tryz.prog 292=some false:=by kernel_rfl
theorem Th:Ds Tryz.prog 299=some true:=by kernel_rfl
theorem BS:Ds Tryz.prog 3=some false:=by kernel_rfl
theorem Ti:Ds Tryz.prog 300=some false:=by kernel_rfl
theorem Dz:Ds Tryz.prog 316=some false:=by kernel_rfl
theorem ag_32:Ds Tryz.prog 32=some true:=by kernel_rfl
theorem GW:Ds Tryz.prog 321=some true:=by kernel_rfl
theorem Ut:Ds Tryz.prog 34=some false:=by kernel_rfl
theorem BL:Ds Tryz.prog 35=some false:=by kernel_rfl
theorem JY:Ds Tryz.prog 37=some true:=by kernel_rfl
theorem JR:Ds Tryz.prog 4=some false:=by kernel_rfl
theorem Acd:Ds Tryz.prog 40=some true:=by kernel_rfl
theorem Nv:Ds Tryz.prog 43=some true:=by kernel_rfl
theorem G5:Ds Tryz.prog 48=some false:=by kernel_rfl
theorem Ei:Ds Tryz.prog 49=some false:=by kernel_rfl
theorem ag_5:Ds Tryz.prog 5=some false:=by kernel_rfl
theorem CV:Ds Tryz.prog 51=some true:=by kernel_rfl
theorem Ra:Ds Tryz.prog 53=some true:=by kernel_rfl
theorem G6:Ds Tryz.prog 55=some true:=by kernel_rfl
theorem Ib:Ds Tryz.prog 59=some true:=by kernel_rfl
theorem EW:Ds Tryz.prog 67=some true:=by kernel_rfl
theorem H6:Ds Tryz.prog 94=some false:=by kernel_rfl
theorem Ic:Ds Tryz.prog 99=some false:=by kernel_rfl
theorem Xj:QG Tryz.prog 113=some (16,111):=by kernel_rfl
theorem Xk:QG Tryz.prog 166=some (4,55):=by kernel_rfl
theorem Kl:Ec Tryz.prog 2=some 8:=by kernel_rfl
theorem Uu:Ec Tryz.prog 28=some 8:=by kernel_rfl
theorem Ada:Ec Tryz.prog 299=some 32:=by kernel_rfl
theorem by_3:Ec Tryz.prog 3=some 8:=by kernel_rfl
theorem Adb:Ec Tryz.prog 300=some 24:=by kernel_rfl
theorem Adc:Ec Tryz.prog 321=some 16:=by kernel_rfl
theorem Ace:Ec Tryz.prog 43=some 16:=by kernel_rfl
theorem Xl:Ec Tryz.prog 59=some 32:=by kernel_rfl
theorem Xm:Ec Tryz.prog 67=some 56:=by kernel_rfl
theorem Add:Ap Tryz.prog 100=true:=by kernel_rfl
theorem Xn:Ap Tryz.prog 101=true:=by kernel_rfl
theorem Ade:Ap Tryz.prog 102=true:=by kernel_rfl
theorem PH:Ap Tryz.prog 103=true:=by kernel_rfl
theorem Adf:Ap Tryz.prog 104=true:=by kernel_rfl
theorem Adg:Ap Tryz.prog 105=true:=by kernel_rfl
theorem Adh:Ap Tryz.prog 106=true:=by kernel_rfl
theorem Adi:Ap Tryz.prog 107=true:=by kernel_rfl
theorem Adj:Ap Tryz.prog 108=true:=by kernel_rfl
theorem Adk:Ap Tryz.prog 109=true:=by kernel_rfl
theorem Adl:Ap Tryz.prog 110=true:=by kernel_rfl
theorem Adm:Ap Tryz.prog 111=true:=by kernel_rfl
theorem Xo:Ap Tryz.prog 112=true:=by kernel_rfl
theorem Adn:Ap Tryz.prog 113=true:=by kernel_rfl
theorem Xp:Ap Tryz.prog 114=true:=by kernel_rfl
theorem Ado:Ap Tryz.prog 115=true:=by kernel_rfl
theorem Adp:Ap Tryz.prog 116=true:=by kernel_rfl
theorem PJ:Ap Tryz.prog 117=true:=by kernel_rfl
theorem Tj:Ap Tryz.prog 118=true:=by kernel_rfl
theorem Xq:Ap Tryz.prog 119=true:=by kernel_rfl
theorem PK:Ap Tryz.prog 120=true:=by kernel_rfl
theorem Adq:Ap Tryz.prog 121=true:=by kernel_rfl
theorem Km:Ap Tryz.prog 130=true:=by kernel_rfl
theorem Nw:Ap Tryz.prog 131=true:=by kernel_rfl
theorem Tk:Ap Tryz.prog 132=true:=by kernel_rfl
theorem Xr:Ap Tryz.prog 133=true:=by kernel_rfl
theorem Xs:Ap Tryz.prog 134=true:=by kernel_rfl
theorem Adr:Ap Tryz.prog 135=true:=by kernel_rfl
theorem Ads:Ap Tryz.prog 136=true:=by kernel_rfl
theorem ca_15:Ap Tryz.prog 15=true:=by kernel_rfl
theorem ca_16:Ap Tryz.prog 16=true:=by kernel_rfl
theorem Adt:Ap Tryz.prog 161=true:=by kernel_rfl
theorem Adu:Ap Tryz.prog 162=true:=by kernel_rfl
theorem Adv:Ap Tryz.prog 163=true:=by kernel_rfl
theorem Adw:Ap Tryz.prog 164=true:=by kernel_rfl
theorem Adx:Ap Tryz.prog 165=true:=by kernel_rfl
theorem Tl:Ap Tryz.prog 166=true:=by kernel_rfl
theorem Tm:Ap Tryz.prog 167=true:=by kernel_rfl
theorem Ady:Ap Tryz.prog 168=true:=by kernel_rfl
theorem Adz:Ap Tryz.prog 169=true:=by kernel_rfl
theorem ca_17:Ap Tryz.prog 17=true:=by kernel_rfl
theorem Ad0:Ap Tryz.prog 170=true:=by kernel_rfl
theorem Ad1:Ap Tryz.prog 171=true:=by kernel_rfl
theorem Ad2:Ap Tryz.prog 172=true:=by kernel_rfl
theorem Ad3:Ap Tryz.prog 173=true:=by kernel_rfl
theorem Ad4:Ap Tryz.prog 174=true:=by kernel_rfl
theorem Ad5:Ap Tryz.prog 175=true:=by kernel_rfl
theorem Xt:Ap Tryz.prog 176=true:=by kernel_rfl
theorem Tn:Ap Tryz.prog 177=true:=by kernel_rfl
theorem Ad6:Ap Tryz.prog 178=true:=by kernel_rfl
theorem LF:Ap Tryz.prog 179=true:=by kernel_rfl
theorem JZ:Ap Tryz.prog 18=true:=by kernel_rfl
theorem PL:Ap Tryz.prog 180=true:=by kernel_rfl
theorem Ad7:Ap Tryz.prog 181=true:=by kernel_rfl
theorem Xu:Ap Tryz.prog 182=true:=by kernel_rfl
theorem Ad8:Ap Tryz.prog 183=true:=by kernel_rfl
theorem Ad9:Ap Tryz.prog 184=true:=by kernel_rfl
theorem Aea:Ap Tryz.prog 185=true:=by kernel_rfl
theorem Aeb:Ap Tryz.prog 186=true:=by kernel_rfl
theorem Xv:Ap Tryz.prog 187=true:=by kernel_rfl
theorem Aec:Ap Tryz.prog 188=true:=by kernel_rfl
theorem ca_19:Ap Tryz.prog 19=true:=by kernel_rfl
theorem Xw:Ap Tryz.prog 191=true:=by kernel_rfl
theorem Xx:Ap Tryz.prog 192=true:=by kernel_rfl
theorem Aed:Ap Tryz.prog 201=true:=by kernel_rfl
theorem Aee:Ap Tryz.prog 203=true:=by kernel_rfl
theorem PM:Ap Tryz.prog 204=true:=by kernel_rfl
theorem To:Ap Tryz.prog 205=true:=by kernel_rfl
theorem Aef:Ap Tryz.prog 206=true:=by kernel_rfl
theorem Aeg:Ap Tryz.prog 207=true:=by kernel_rfl
theorem Aeh:Ap Tryz.prog 208=true:=by kernel_rfl
theorem PN:Ap Tryz.prog 209=true:=by kernel_rfl
theorem Xy:Ap Tryz.prog 210=true:=by kernel_rfl
theorem Aei:Ap Tryz.prog 211=true:=by kernel_rfl
theorem Aej:Ap Tryz.prog 212=true:=by kernel_rfl
theorem Aek:Ap Tryz.prog 213=true:=by kernel_rfl
theorem Ael:Ap Tryz.prog 214=true:=by kernel_rfl
theorem Aem:Ap Tryz.prog 215=true:=by kernel_rfl
theorem Aen:Ap Tryz.prog 216=true:=by kernel_rfl
theorem Aeo:Ap Tryz.prog 217=true:=by kernel_rfl
theorem Aep:Ap Tryz.prog 218=true:=by kernel_rfl
theorem Aeq:Ap Tryz.prog 219=true:=by kernel_rfl
theorem Aer:Ap Tryz.prog 220=true:=by kernel_rfl
theorem Aes:Ap Tryz.prog 221=true:=by kernel_rfl
theorem Aet:Ap Tryz.prog 222=true:=by kernel_rfl
theorem Aeu:Ap Tryz.prog 223=true:=by kernel_rfl
theorem Aev:Ap Tryz.prog 224=true:=by kernel_rfl
theorem Aew:Ap Tryz.prog 225=true:=by kernel_rfl
theorem Xz:Ap Tryz.prog 226=true:=by kernel_rfl
theorem X0:Ap Tryz.prog 230=true:=by kernel_rfl
theorem Aex:Ap Tryz.prog 231=true:=by kernel_rfl
theorem Aey:Ap Tryz.prog 232=true:=by kernel_rfl
theorem Aez:Ap Tryz.prog 233=true:=by kernel_rfl
theorem Ae0:Ap Tryz.prog 234=true:=by kernel_rfl
theorem Ae1:Ap Tryz.prog 235=true:=by kernel_rfl
theorem FC:Ap Tryz.prog 236=true:=by kernel_rfl
theorem Ae2:Ap Tryz.prog 237=true:=by kernel_rfl
theorem Ae3:Ap Tryz.prog 238=true:=by kernel_rfl
theorem Ae4:Ap Tryz.prog 240=true:=by kernel_rfl
theorem Ae5:Ap Tryz.prog 241=true:=by kernel_rfl
theorem Ae6:Ap Tryz.prog 242=true:=by kernel_rfl
theorem Ae7:Ap Tryz.prog 243=true:=by kernel_rfl
theorem Ae8:Ap Tryz.prog 244=true:=by kernel_rfl
theorem Ae9:Ap Tryz.prog 245=true:=by kernel_rfl
theorem Afa:Ap Tryz.prog 246=true:=by kernel_rfl
theorem X1:Ap Tryz.prog 247=true:=by kernel_rfl
theorem Tp:Ap Tryz.prog 248=true:=by kernel_rfl
theorem Afb:Ap Tryz.prog 249=true:=by kernel_rfl
theorem Afc:Ap Tryz.prog 250=true:=by kernel_rfl
theorem PO:Ap Tryz.prog 251=true:=by kernel_rfl
theorem Afd:Ap Tryz.prog 252=true:=by kernel_rfl
theorem Tq:Ap Tryz.prog 253=true:=by kernel_rfl
theorem Afe:Ap Tryz.prog 254=true:=by kernel_rfl
theorem X2:Ap Tryz.prog 256=true:=by kernel_rfl
theorem Aff:Ap Tryz.prog 257=true:=by kernel_rfl
theorem Afg:Ap Tryz.prog 258=true:=by kernel_rfl
theorem Ts:Ap Tryz.prog 259=true:=by kernel_rfl
theorem X3:Ap Tryz.prog 260=true:=by kernel_rfl
theorem X4:Ap Tryz.prog 261=true:=by kernel_rfl
theorem X5:Ap Tryz.prog 262=true:=by kernel_rfl
theorem Afh:Ap Tryz.prog 263=true:=by kernel_rfl
theorem X6:Ap Tryz.prog 264=true:=by kernel_rfl
theorem Afi:Ap Tryz.prog 265=true:=by kernel_rfl
theorem Afj:Ap Tryz.prog 266=true:=by kernel_rfl
theorem Afk:Ap Tryz.prog 267=true:=by kernel_rfl
theorem Afl:Ap Tryz.prog 268=true:=by kernel_rfl
theorem Afm:Ap Tryz.prog 269=true:=by kernel_rfl
theorem OJ:Ap Tryz.prog 27=true:=by kernel_rfl
theorem Afn:Ap Tryz.prog 270=true:=by kernel_rfl
theorem X7:Ap Tryz.prog 271=true:=by kernel_rfl
theorem X8:Ap Tryz.prog 272=true:=by kernel_rfl
theorem Afo:Ap Tryz.prog 273=true:=by kernel_rfl
theorem Afp:Ap Tryz.prog 274=true:=by kernel_rfl
theorem Afq:Ap Tryz.prog 275=true:=by kernel_rfl
theorem Afr:Ap Tryz.prog 276=true:=by kernel_rfl
theorem Tt:Ap Tryz.prog 277=true:=by kernel_rfl
theorem X9:Ap Tryz.prog 278=true:=by kernel_rfl
theorem XA:Ap Tryz.prog 279=true:=by kernel_rfl
theorem Afs:Ap Tryz.prog 280=true:=by kernel_rfl
theorem Aft:Ap Tryz.prog 281=true:=by kernel_rfl
theorem Afu:Ap Tryz.prog 282=true:=by kernel_rfl
theorem XB:Ap Tryz.prog 283=true:=by kernel_rfl
theorem Afv:Ap Tryz.prog 284=true:=by kernel_rfl
theorem Afw:Ap Tryz.prog 285=true:=by kernel_rfl
theorem Tu:Ap Tryz.prog 286=true:=by kernel_rfl
theorem ca_46:Ap Tryz.prog 46=true:=by kernel_rfl
theorem ca_47:Ap Tryz.prog 47=true:=by kernel_rfl
theorem ca_48:Ap Tryz.prog 48=true:=by kernel_rfl
theorem Acf:Ap Tryz.prog 49=true:=by kernel_rfl
theorem Me:Ap Tryz.prog 50=true:=by kernel_rfl
theorem ca_53:Ap Tryz.prog 53=true:=by kernel_rfl
theorem ca_54:Ap Tryz.prog 54=true:=by kernel_rfl
theorem ca_55:Ap Tryz.prog 55=true:=by kernel_rfl
theorem ca_56:Ap Tryz.prog 56=true:=by kernel_rfl
theorem ca_57:Ap Tryz.prog 57=true:=by kernel_rfl
theorem ca_58:Ap Tryz.prog 58=true:=by kernel_rfl
theorem ca_59:Ap Tryz.prog 59=true:=by kernel_rfl
theorem ca_60:Ap Tryz.prog 60=true:=by kernel_rfl
theorem ca_61:Ap Tryz.prog 61=true:=by kernel_rfl
theorem ca_62:Ap Tryz.prog 62=true:=by kernel_rfl
theorem Acg:Ap Tryz.prog 63=true:=by kernel_rfl
theorem ca_64:Ap Tryz.prog 64=true:=by kernel_rfl
theorem ca_65:Ap Tryz.prog 65=true:=by kernel_rfl
theorem ca_66:Ap Tryz.prog 66=true:=by kernel_rfl
theorem ca_67:Ap Tryz.prog 67=true:=by kernel_rfl
theorem ca_68:Ap Tryz.prog 68=true:=by kernel_rfl
theorem ca_69:Ap Tryz.prog 69=true:=by kernel_rfl
theorem ca_70:Ap Tryz.prog 70=true:=by kernel_rfl
theorem ca_79:Ap Tryz.prog 79=true:=by kernel_rfl
theorem Ach:Ap Tryz.prog 81=true:=by kernel_rfl
theorem ca_98:Ap Tryz.prog 98=true:=by kernel_rfl
theorem ca_99:Ap Tryz.prog 99=true:=by kernel_rfl
theorem Nx:CC Tryz.prog 248=some 223:=by kernel_rfl
theorem Tv:CC Tryz.prog 256=some 23:=by kernel_rfl
theorem Es:CC Tryz.prog 26=some 43:=by kernel_rfl
theorem Dh:CC Tryz.prog 27=some 67:=by kernel_rfl
theorem Rb:CC Tryz.prog 29=some 55:=by kernel_rfl
theorem LG:CC Tryz.prog 292=some 300:=by kernel_rfl
theorem Kn:CC Tryz.prog 300=some 299:=by kernel_rfl
theorem Dp:CC Tryz.prog 316=some 321:=by kernel_rfl
theorem AR:CC Tryz.prog 35=some 2:=by kernel_rfl
theorem Br:CC Tryz.prog 48=some 28:=by kernel_rfl
theorem CW:CC Tryz.prog 49=some 59:=by kernel_rfl
theorem EX:CC Tryz.prog 94=some 3:=by kernel_rfl
theorem FD:B9 Tryz.prog 106 0=some 0:=by kernel_rfl
theorem Ff:B9 Tryz.prog 106 1=some 1:=by kernel_rfl
theorem KM:B9 Tryz.prog 106 2=some 2:=by kernel_rfl
theorem KN:B9 Tryz.prog 106 3=some 3:=by kernel_rfl
theorem Ej:B9 Tryz.prog 162 0=some 0:=by kernel_rfl
theorem DA:B9 Tryz.prog 165 0=some 0:=by kernel_rfl
theorem KO:B9 Tryz.prog 165 1=some 1:=by kernel_rfl
theorem Rc:B9 Tryz.prog 168 0=some 0:=by kernel_rfl
theorem KP:B9 Tryz.prog 168 1=some 32:=by kernel_rfl
theorem FE:B9 Tryz.prog 168 2=some 33:=by kernel_rfl
theorem XC:B9 Tryz.prog 223 0=some 0:=by kernel_rfl
theorem XD:B9 Tryz.prog 223 1=some 1:=by kernel_rfl
theorem Gs:B9 Tryz.prog 254 0=some 0:=by kernel_rfl
theorem E1:B9 Tryz.prog 254 1=some 2:=by kernel_rfl
theorem E3:B9 Tryz.prog 254 2=some 3:=by kernel_rfl
theorem Gt:B9 Tryz.prog 254 3=some 4:=by kernel_rfl
theorem Ny:B9 Tryz.prog 254 4=some 5:=by kernel_rfl
theorem KQ:B9 Tryz.prog 294 0=some 0:=by kernel_rfl
theorem Ea:B9 Tryz.prog 294 1=some 1:=by kernel_rfl
theorem GX:B9 Tryz.prog 294 2=some 2:=by kernel_rfl
theorem Jn:B9 Tryz.prog 294 3=some 3:=by kernel_rfl
theorem Nz:B9 Tryz.prog 299 0=some 0:=by kernel_rfl
theorem Rg:B9 Tryz.prog 299 1=some 1:=by kernel_rfl
theorem Fg:B9 Tryz.prog 299 2=some 2:=by kernel_rfl
theorem N0:B9 Tryz.prog 299 3=some 3:=by kernel_rfl
theorem Cx:B9 Tryz.prog 318 0=some 0:=by kernel_rfl
theorem Jo:B9 Tryz.prog 321 0=some 0:=by kernel_rfl
theorem N1:B9 Tryz.prog 321 1=some 1:=by kernel_rfl
theorem Uv:B9 Tryz.prog 32 0=some 0:=by kernel_rfl
theorem Uw:B9 Tryz.prog 32 1=some 1:=by kernel_rfl
theorem Ux:B9 Tryz.prog 32 2=some 2:=by kernel_rfl
theorem Uy:B9 Tryz.prog 32 3=some 3:=by kernel_rfl
theorem Uz:B9 Tryz.prog 32 4=some 4:=by kernel_rfl
theorem U0:B9 Tryz.prog 32 5=some 5:=by kernel_rfl
theorem PR:B9 Tryz.prog 37 0=some 0:=by kernel_rfl
theorem PS:B9 Tryz.prog 37 1=some 1:=by kernel_rfl
theorem PT:B9 Tryz.prog 40 0=some 0:=by kernel_rfl
theorem FG:B9 Tryz.prog 40 1=some 1:=by kernel_rfl
theorem PU:B9 Tryz.prog 40 2=some 2:=by kernel_rfl
theorem ME:B9 Tryz.prog 40 3=some 3:=by kernel_rfl
theorem ZX:B9 Tryz.prog 40 4=some 4:=by kernel_rfl
theorem KS:B9 Tryz.prog 40 5=some 5:=by kernel_rfl
theorem JE:B9 Tryz.prog 40 6=some 6:=by kernel_rfl
theorem FH:B9 Tryz.prog 43 0=some 0:=by kernel_rfl
theorem MF:B9 Tryz.prog 43 1=some 1:=by kernel_rfl
theorem Ex:B9 Tryz.prog 51 0=some 0:=by kernel_rfl
theorem CN:B9 Tryz.prog 51 1=some 1:=by kernel_rfl
theorem Fm:B9 Tryz.prog 53 0=some 0:=by kernel_rfl
theorem Gg:B9 Tryz.prog 53 1=some 1:=by kernel_rfl
theorem JF:B9 Tryz.prog 55 0=some 0:=by kernel_rfl
theorem KT:B9 Tryz.prog 55 1=some 1:=by kernel_rfl
theorem MG:B9 Tryz.prog 55 2=some 2:=by kernel_rfl
theorem Ey:B9 Tryz.prog 55 3=some 3:=by kernel_rfl
theorem EF:B9 Tryz.prog 55 4=some 4:=by kernel_rfl
theorem D6:B9 Tryz.prog 55 5=some 6:=by kernel_rfl
theorem FI:B9 Tryz.prog 59 0=some 0:=by kernel_rfl
theorem FJ:B9 Tryz.prog 59 1=some 1:=by kernel_rfl
theorem EG:B9 Tryz.prog 59 2=some 2:=by kernel_rfl
theorem GG:B9 Tryz.prog 59 3=some 3:=by kernel_rfl
theorem Gh:B9 Tryz.prog 67 0=some 0:=by kernel_rfl
theorem I6:B9 Tryz.prog 67 1=some 1:=by kernel_rfl
theorem I8:B9 Tryz.prog 67 2=some 2:=by kernel_rfl
theorem ET:B9 Tryz.prog 67 3=some 3:=by kernel_rfl
theorem KU:B9 Tryz.prog 67 4=some 4:=by kernel_rfl
theorem PV:B9 Tryz.prog 67 5=some 5:=by kernel_rfl
theorem KV:B9 Tryz.prog 67 6=some 6:=by kernel_rfl
theorem Bq:Tryz.prog.follows .mixedOrders=true:=by kernel_rfl
theorem Fb:KF Tryz.prog 163=some (28,67):=by kernel_rfl
theorem Afx:Df Tryz.prog 106=some [(0,1),(1,1),(2,1),(3,1)]:=by kernel_rfl
theorem Afy:Df Tryz.prog 162=some [(0,1)]:=by kernel_rfl
theorem XE:Df Tryz.prog 165=some [(0,1),(1,1)]:=by kernel_rfl
theorem Afz:Df Tryz.prog 168=some [(0,32),(32,1),(33,1)]:=by kernel_rfl
theorem N2:Df Tryz.prog 223=some [(0,1),(1,1)]:=by kernel_rfl
theorem Af0:Df Tryz.prog 254=some [(0,2),(2,1),(3,1),(4,1),(5,1)]:=by kernel_rfl
theorem Af1:Df Tryz.prog 294=some [(0,1),(1,1),(2,1),(3,1)]:=by kernel_rfl
theorem XF:Df Tryz.prog 299=some [(0,1),(1,1),(2,1),(3,1)]:=by kernel_rfl
theorem Af2:Df Tryz.prog 318=some [(0,1)]:=by kernel_rfl
theorem Aci:Df Tryz.prog 32=some [(0,1),(1,1),(2,1),(3,1),(4,1),(5,1),(6,1)]:=by kernel_rfl
theorem Af3:Df Tryz.prog 321=some [(0,1),(1,1)]:=by kernel_rfl
theorem U2:Df Tryz.prog 37=some [(0,1),(1,1)]:=by kernel_rfl
theorem KW:Df Tryz.prog 40=some [(0,1),(1,1),(2,1),(3,1),(4,1),(5,1),(6,1)]:=by kernel_rfl
theorem Acj:Df Tryz.prog 43=some [(0,1),(1,1)]:=by kernel_rfl
theorem pl_51:Df Tryz.prog 51=some [(0,1),(1,1)]:=by kernel_rfl
theorem Ack:Df Tryz.prog 53=some [(0,1),(1,1)]:=by kernel_rfl
theorem U3:Df Tryz.prog 55=some [(0,1),(1,1),(2,1),(3,1),(4,2),(6,2)]:=by kernel_rfl
theorem XG:Df Tryz.prog 59=some [(0,1),(1,1),(2,1),(3,1)]:=by kernel_rfl
theorem pl_67:Df Tryz.prog 67=some [(0,1),(1,1),(2,1),(3,1),(4,1),(5,1),(6,1)]:=by kernel_rfl
theorem XH:BX Tryz.prog 111=some 1:=by kernel_rfl
theorem Af4:BX Tryz.prog 113=some 16:=by kernel_rfl
theorem Bx:BX Tryz.prog 2=some 1:=by kernel_rfl
theorem LH:BX Tryz.prog 223=some 2:=by kernel_rfl
theorem Acl:BX Tryz.prog 23=some 1:=by kernel_rfl
theorem sz_26:BX Tryz.prog 26=some 1:=by kernel_rfl
theorem Bi:BX Tryz.prog 28=some 1:=by kernel_rfl
theorem PW:BX Tryz.prog 286=some 1:=by kernel_rfl
theorem Af5:BX Tryz.prog 291=some 1:=by kernel_rfl
theorem GY:BX Tryz.prog 299=some 4:=by kernel_rfl
theorem FK:BX Tryz.prog 3=some 1:=by kernel_rfl
theorem LI:BX Tryz.prog 300=some 1:=by kernel_rfl
theorem XI:BX Tryz.prog 316=some 1:=by kernel_rfl
theorem Acm:BX Tryz.prog 32=some 7:=by kernel_rfl
theorem CB:BX Tryz.prog 321=some 2:=by kernel_rfl
theorem Acn:BX Tryz.prog 35=some 1:=by kernel_rfl
theorem EY:BX Tryz.prog 37=some 2:=by kernel_rfl
theorem VC:BX Tryz.prog 4=some 1:=by kernel_rfl
theorem Aco:BX Tryz.prog 40=some 7:=by kernel_rfl
theorem Ek:BX Tryz.prog 43=some 2:=by kernel_rfl
theorem Acp:BX Tryz.prog 48=some 1:=by kernel_rfl
theorem Acq:BX Tryz.prog 49=some 1:=by kernel_rfl
theorem C7:BX Tryz.prog 51=some 2:=by kernel_rfl
theorem Mf:BX Tryz.prog 53=some 2:=by kernel_rfl
theorem DB:BX Tryz.prog 55=some 8:=by kernel_rfl
theorem CX:BX Tryz.prog 59=some 4:=by kernel_rfl
theorem Cj:BX Tryz.prog 67=some 7:=by kernel_rfl
theorem I9:Tryz.prog.underlying 101=some (.pointer 165):=by kernel_rfl
theorem N3:Tryz.prog.underlying 103=some (.pointer 168):=by kernel_rfl
theorem VD:Tryz.prog.underlying 2=some (.int .i64):=by kernel_rfl
theorem XJ:Tryz.prog.underlying 24=some (.pointer 106):=by kernel_rfl
theorem PX:Tryz.prog.underlying 247=some (.int .u64):=by kernel_rfl
theorem EZ:Tryz.prog.underlying 28=some (.int .u64):=by kernel_rfl
theorem Af6:Tryz.prog.underlying 286=some (.int .u64):=by kernel_rfl
theorem PY:Tryz.prog.underlying 3=some (.int .i64):=by kernel_rfl
theorem Tw:Tryz.prog.underlying 301=some (.pointer 318):=by kernel_rfl
theorem un_4:Tryz.prog.underlying 4=some (.bool):=by kernel_rfl
theorem un_5:Tryz.prog.underlying 5=some (.int .u8):=by kernel_rfl
theorem un_9:Tryz.prog.underlying 9=some (.string):=by kernel_rfl
theorem Mg:Tryz.prog.underlying 99=some (.pointer 162):=by kernel_rfl
theorem Af7:Cc Tryz.prog 106=some ([.pointer none,.pointer none,.pointer none,.int .i64 0]):=by kernel_rfl
theorem XK:Cc Tryz.prog 113=some (List.replicate 16 (.nilFunc:Value)):=by kernel_rfl
theorem Af8:Cc Tryz.prog 162=some ([.slice none 0 0]):=by kernel_rfl
theorem XL:Cc Tryz.prog 165=some ([.map none,.int .u64 0]):=by kernel_rfl
theorem Af9:Cc Tryz.prog 168=some ([.int .u64 0,.int .i64 0,.bool false,.slice none 0 0,.int .i64 0,.slice none 0 0,.slice none 0 0,.slice none 0 0,.int .u64 0,.int .i64 0,.bool false,.slice none 0 0,.int .i64 0,.slice none 0 0,.slice none 0 0,.slice none 0 0,.int .u64 0,.int .i64 0,.bool false,.slice none 0 0,.int .i64 0,.slice none 0 0,.slice none 0 0,.slice none 0 0,.int .u64 0,.int .i64 0,.bool false,.slice none 0 0,.int .i64 0,.slice none 0 0,.slice none 0 0,.slice none 0 0,.int .u64 0,.int .u64 0]):=by kernel_rfl
theorem Eb:Cc Tryz.prog 2=some ([.int .i64 0]):=by kernel_rfl
theorem IA:Cc Tryz.prog 223=some ([.int .i64 0,.nilFunc]):=by kernel_rfl
theorem zc_23:Cc Tryz.prog 23=some ([.nilFunc]):=by kernel_rfl
theorem Aga:Cc Tryz.prog 254=some ([.int .i64 0,.slice none 0 0,.slice none 0 0,.slice none 0 0,.slice none 0 0,.int .i64 0]):=by kernel_rfl
theorem N4:Cc Tryz.prog 28=some ([.int .u64 0]):=by kernel_rfl
theorem Agb:Cc Tryz.prog 286=some ([.int .u64 0]):=by kernel_rfl
theorem Agc:Cc Tryz.prog 291=some ([.pointer none]):=by kernel_rfl
theorem Agd:Cc Tryz.prog 294=some ([.slice none 0 0,.slice none 0 0,.slice none 0 0,.slice none 0 0]):=by kernel_rfl
theorem Jp:Cc Tryz.prog 299=some ([.int .i64 0,.int .i64 0,.int .i64 0,.int .i64 0]):=by kernel_rfl
theorem Tx:Cc Tryz.prog 3=some ([.int .i64 0]):=by kernel_rfl
theorem Age:Cc Tryz.prog 300=some ([.slice none 0 0]):=by kernel_rfl
theorem Agf:Cc Tryz.prog 318=some ([.slice none 0 0]):=by kernel_rfl
theorem XM:Cc Tryz.prog 32=some ([.int .i64 0,.slice none 0 0,.slice none 0 0,.int .u64 0,.slice none 0 0,.int .u64 0,.slice none 0 0]):=by kernel_rfl
theorem Ty:Cc Tryz.prog 321=some ([.int .i64 0,.int .i64 0]):=by kernel_rfl
theorem Acr:Cc Tryz.prog 35=some ([.slice none 0 0]):=by kernel_rfl
theorem HA:Cc Tryz.prog 37=some ([.int .i64 0,.slice none 0 0]):=by kernel_rfl
theorem zc_4:Cc Tryz.prog 4=some ([.bool false]):=by kernel_rfl
theorem KX:Cc Tryz.prog 40=some ([.int .u8 0,.int .i64 0,.int .i64 0,.int .i64 0,.int .i64 0,.int .i64 0,.int .u64 0]):=by kernel_rfl
theorem IX:Cc Tryz.prog 43=some ([.int .i64 0,.int .i64 0]):=by kernel_rfl
theorem Mi:Cc Tryz.prog 51=some ([.int .i64 0,.slice none 0 0]):=by kernel_rfl
theorem U4:Cc Tryz.prog 53=some ([.slice none 0 0,.slice none 0 0]):=by kernel_rfl
theorem HC:Cc Tryz.prog 55=some ([.int .u64 0,.int .i64 0,.bool false,.slice none 0 0,.int .i64 0,.slice none 0 0,.slice none 0 0,.slice none 0 0]):=by kernel_rfl
theorem GZ:Cc Tryz.prog 59=some ([.int .i64 0,.int .i64 0,.int .i64 0,.int .i64 0]):=by kernel_rfl
theorem Et:Cc Tryz.prog 67=some ([.int .u64 0,.int .i64 0,.int .i64 0,.int .i64 0,.int .i64 0,.int .i64 0,.bool false]):=by kernel_rfl
theorem N5:(Tryz.prog.info? 67).bind (·.zero)=some (.agg #[.int .u64 0,.int .i64 0,.int .i64 0,.int .i64 0,.int .i64 0,.int .i64 0,.bool false]):=by kernel_rfl
end Go.Proofs.YtdagmpmdcgedcaaGreat

/- Plain law of shortest ways: rounds of relaxing come to an end, where numbers are that fit. -/
namespace Go.Proofs.YtdagmpmdcgedcaaGreat
open Go.GV

/-- An arc: from where, to where, how long. -/
abbrev Ar:=Nat × Nat × Int
def upd (p:Nat→Int) (v:Nat) (x:Int):Nat→Int:=fun u=>if u=v then x else p u
def Ie (p:Nat→Int) (a:Ar):Nat→Int:=if p a.1+a.2.2<p a.2.1 then upd p a.2.1 (p a.1+a.2.2) else p
def Fea (A:List Ar) (q:Nat→Int):Prop:=∀ a∈A,q a.2.1≤q a.1+a.2.2
/-- The least lengths of ways of so many arcs, or less, from anywhere. -/
def step0 (A:List Ar) (d:Nat→Int) (v:Nat):Int:=A.foldl (fun m a=>if a.2.1=v then min m (d a.1+a.2.2) else m) (d v)
def DD (A:List Ar):Nat→Nat→Int
 | 0,_=>0
 | r+1,v=>step0 A (DD A r) v
theorem Ko {d:Nat→Int} {v:Nat}:∀ {A:List Ar} {m:Int},A.foldl (fun m a=>if a.2.1=v then min m (d a.1+a.2.2) else m) m≤m
 | [],m=>Int.le_refl _
 | a::A,m=>by
  rw [List.foldl_cons];refine Int.le_trans Ko ?_
  split
  ·exact Int.min_le_left ..
  ·exact Int.le_refl _
theorem Mj {d:Nat→Int} {v:Nat}:∀ {A:List Ar} {m:Int} {a:Ar},a∈A→a.2.1=v→A.foldl (fun m a=>if a.2.1=v then min m (d a.1+a.2.2) else m) m≤d a.1+a.2.2
 | b::A,m,a,h,hv=>by
  rw [List.foldl_cons]
  rcases List.mem_cons.1 h with rfl | h
  ·refine Int.le_trans Ko ?_;rw [if_pos hv];exact Int.min_le_right ..
  ·exact Mj h hv
theorem N6 {d:Nat→Int} {v:Nat}:∀ {A:List Ar} {m:Int},A.foldl (fun m a=>if a.2.1=v then min m (d a.1+a.2.2) else m) m=m∨∃ a∈A,a.2.1=v∧A.foldl (fun m a=>if a.2.1=v then min m (d a.1+a.2.2) else m) m=d a.1+a.2.2
 | [],m => .inl rfl
 | b::A,m=>by
  rw [List.foldl_cons]
  rcases N6 (d:=d) (v:=v) (A:=A) (m:=if b.2.1=v then min m (d b.1+b.2.2) else m) with h | ⟨a,ha,hv,h⟩
  ·rw [h]
   by_cases hb:b.2.1=v
   ·rw [if_pos hb]
    rcases Int.le_total m (d b.1+b.2.2) with h5 | h5
    ·exact .inl (Int.min_eq_left h5)
    ·exact .inr ⟨b,List.mem_cons_self ..,hb,Int.min_eq_right h5⟩
   ·rw [if_neg hb]; exact .inl rfl
  ·exact .inr ⟨a,List.mem_cons_of_mem _ ha,hv,h⟩
theorem XN (A:List Ar) (r v:Nat):DD A (r+1) v≤DD A r v:=Ko
theorem KY (A:List Ar) (v:Nat):∀ {r s:Nat},r≤s→DD A s v≤DD A r v
 | r,s,h=>by
  obtain ⟨k,rfl⟩:=Nat.exists_eq_add_of_le h
  induction k with
  | zero=>exact Int.le_refl _
  | succ k ih=>exact Int.le_trans (XN A (r+k) v) (ih (by omega))
theorem XO {A:List Ar} {a:Ar} (h:a∈A) (r:Nat):DD A (r+1) a.2.1≤DD A r a.1+a.2.2:=Mj h rfl
theorem U5 (A:List Ar) (r v:Nat):DD A (r+1) v=DD A r v∨∃ a∈A,a.2.1=v∧DD A (r+1) v=DD A r a.1+a.2.2:=N6
/-- Whatever gets less so late goes back along arcs. -/
theorem Rh {A:List Ar}:∀ {r v:Nat},DD A (r+1) v<DD A r v→∃ x:Nat→Nat,x (r+1)=v∧∀ j,j≤r→DD A (j+1) (x (j+1))<DD A j (x (j+1))∧∃ a∈A,a.1=x j∧a.2.1=x (j+1)∧DD A (j+1) (x (j+1))=DD A j (x j)+a.2.2
 | 0,v,h=>by
  rcases U5 A 0 v with h1 | ⟨a,ha,hv,h1⟩
  ·omega
  ·refine ⟨fun j=>if j=0 then a.1 else v,rfl,fun j hj=>?_⟩;obtain rfl:j=0:=by omega
   exact ⟨h,a,ha,rfl,hv,h1⟩
 | r+1,v,h=>by
  rcases U5 A (r+1) v with h1 | ⟨a,ha,hv,h1⟩
  ·omega
  ·have h2:=XN A r a.1;have h3:=XO ha r;rw [hv] at h3;have h4:DD A (r+1) a.1<DD A r a.1:=by omega
   obtain ⟨x,hx,hj⟩:=Rh h4;obtain ⟨y,hy1,hy2⟩:∃ y:Nat→Nat,y (r+2)=v∧∀ j,j≠r+2→y j=x j:=⟨fun j=>if j=r+2 then v else x j,if_pos rfl,fun j h=>if_neg h⟩;refine ⟨y,hy1,fun j hjr=>?_⟩
   by_cases h5:j=r+1
   ·subst h5;rw [show r+1+1=r+2 from rfl,hy1,hy2 _ (by omega)];exact ⟨h,a,ha,hx.symm,hv,by rw [hx]; exact h1⟩
   ·rw [hy2 _ (by omega),hy2 _ (by omega)];exact hj j (by omega)
theorem KZ:∀ (n:Nat) (l:List Nat),l.Nodup→(∀ x∈l,x<n)→l.length≤n
 | 0,l,_,h=>by
  cases l with
  | nil=>exact Nat.le_refl _
  | cons x l=>exact absurd (h x (by simp)) (Nat.not_lt_zero _)
 | n+1,l,hd,h=>by
  have h1:=KZ n (l.filter (· != n)) (hd.filter _) (fun x hx=>by
   have:=h x (List.mem_filter.1 hx).1;have h2:=(List.mem_filter.1 hx).2
   simp at h2; omega)
  have h2:l.length=(l.filter (· != n)).length+l.count n:=by
   clear hd h h1
   induction l with
   | nil=>rfl
   | cons x l ih =>
    rw [List.count_cons,List.filter_cons]
    by_cases hx:x=n
    ·subst hx; simp; omega
    ·simp [hx]; omega
  have h3:l.count n≤1:=List.nodup_iff_count.1 hd n;omega
theorem XP {n:Nat} {x:Nat→Nat} (h:∀ j,j≤n→x j<n):∃ i j,i<j∧j≤n∧x i=x j:=by
 refine Classical.byContradiction fun hn=>?_
 have hd:((List.range (n+1)).map x).Nodup:=by
  rw [List.nodup_iff_pairwise_ne,List.pairwise_map];refine List.Pairwise.imp_of_mem (R:=fun a b=>a<b) (fun {a b} ha hb hab he=>hn ⟨a,b,hab,?_,he⟩) List.pairwise_lt_range;have:=List.mem_range.1 hb; omega
 have h1:=KZ n _ hd fun y hy=>by
  obtain ⟨j,hj,rfl⟩:=List.mem_map.1 hy;exact h j (by have:=List.mem_range.1 hj; omega)
 simp at h1;omega
/-- As many rounds as there are nodes are enough. -/
theorem Agg {A:List Ar} {n:Nat} {q:Nat→Int} (hq:Fea A q) (hA:∀ a∈A,a.1<n∧a.2.1<n) (v:Nat):DD A (n+1) v=DD A n v:=by
 have h1:=XN A n v;refine Classical.byContradiction fun hne=>?_;obtain ⟨x,-,hx⟩:=Rh (show DD A (n+1) v<DD A n v by omega)
 obtain ⟨i,j,hij,hjn,he⟩:=XP (n:=n) (x:=fun j=>x (j+1)) (fun j hj=>by
  obtain ⟨_,a,ha,_,h2,_⟩:=hx j hj
  rw [← h2]; exact (hA a ha).2)
 have hmono:∀ k,i+k≤n→DD A (i+1) (x (i+1)) - q (x (i+1))≤DD A (i+k+1) (x (i+k+1)) - q (x (i+k+1)):=by
  intro k
  induction k with
  | zero=>intro _; exact Int.le_refl _
  | succ k ih =>
   intro hk;have h2:=ih (by omega);obtain ⟨_,a,ha,h3,h4,h5⟩:=hx (i+k+1) hk;have h6:=hq a ha;rw [h3,h4] at h6;show _≤DD A (i+(k+1)+1) (x (i+(k+1)+1)) - q (x (i+(k+1)+1));rw [show i+(k+1)+1=i+k+1+1 by omega,h5];omega
 have h2:=hmono (j - i) (by omega);rw [show i+(j - i)+1=j+1 by omega,← he] at h2;have h3:=(hx j hjn).1;rw [← he] at h3;have h4:=KY A (x (i+1)) (show i+1≤j by omega);omega
theorem Tz {A:List Ar} {n:Nat} {q:Nat→Int} (hq:Fea A q) (hA:∀ a∈A,a.1<n∧a.2.1<n):Fea A (DD A n):=fun a ha=>by
 have h1:=XO ha n;rw [Agg hq hA] at h1;exact h1
theorem U6 {A:List Ar} {m:Int} (h0:0≤m) (hA:∀ a∈A,-m≤a.2.2):∀ (r v:Nat),-(r*m)≤DD A r v
 | 0,v=>by simp [DD]
 | r+1,v=>by
  have e:((r+1:Nat):Int)*m=r*m+m:=by rw [Int.natCast_add,Int.add_mul]; simp
  rcases U5 A r v with h | ⟨a,ha,hv,h⟩
  ·rw [h,e]; have:=U6 h0 hA r v; omega
  ·rw [h,e]; have:=U6 h0 hA r a.1; have:=hA a ha; omega
/-! ### Relaxing in place -/
theorem U7 (p:Nat→Int) (a:Ar) (v:Nat):Ie p a v≤p v:=by
 unfold Ie
 split
 ·unfold upd
  split
  ·rename_i h1 h2; subst h2; omega
  ·exact Int.le_refl _
 ·exact Int.le_refl _
theorem ZY {p f:Nat→Int} {a:Ar} (hf:f a.2.1≤f a.1+a.2.2) (h:∀ v,f v≤p v) (v:Nat):f v≤Ie p a v:=by
 unfold Ie
 split
 ·unfold upd
  split
  ·rename_i h1 h2; subst h2; have:=h a.1; omega
  ·exact h v
 ·exact h v
theorem XQ (p:Nat→Int) (a:Ar):Ie p a a.2.1≤p a.1+a.2.2:=by
 unfold Ie
 split
 ·unfold upd; rw [if_pos rfl]; exact Int.le_refl _
 ·omega
theorem Lc:∀ (A:List Ar) (p:Nat→Int) (v:Nat),A.foldl Ie p v≤p v
 | [],_,_=>Int.le_refl _
 | a::A,p,v=>Int.le_trans (Lc A _ v) (U7 p a v)
theorem PZ {f:Nat→Int}:∀ {A:List Ar} {p:Nat→Int},Fea A f→(∀ v,f v≤p v)→∀ v,f v≤A.foldl Ie p v
 | [],_,_,h,v=>h v
 | a::_,_,hf,h,v=>PZ (fun b hb=>hf b (List.mem_cons_of_mem _ hb)) (ZY (hf a (List.mem_cons_self ..)) h) v
theorem Ri {q:Nat→Int}:∀ {A:List Ar} {p:Nat→Int},(∀ v,p v≤q v)→∀ a∈A,A.foldl Ie p a.2.1≤q a.1+a.2.2
 | b::A,p,h,a,ha=>by
  rw [List.foldl_cons]
  rcases List.mem_cons.1 ha with rfl | ha
  ·have h1:=Lc A (Ie p a) a.2.1;have h2:=XQ p a;have:=h a.1;omega
  ·exact Ri (fun v=>Int.le_trans (U7 p b v) (h v)) a ha
/-- Rounds. -/
def EO (A:List Ar):Nat→(Nat→Int)→Nat→Int
 | 0,p=>p
 | r+1,p=>A.foldl Ie (EO A r p)
theorem JG (A:List Ar):∀ (r:Nat) (v:Nat),EO A r (fun _=>0) v≤DD A r v
 | 0,v=>Int.le_refl _
 | r+1,v=>by
  show A.foldl Ie (EO A r fun _=>0) v≤_
  rcases U5 A r v with h | ⟨a,ha,hv,h⟩
  ·rw [h]; exact Int.le_trans (Lc A _ v) (JG A r v)
  ·rw [h,← hv]; exact Ri (JG A r) a ha
theorem JH {A:List Ar} {f:Nat→Int} (hf:Fea A f) (h0:∀ v,f v≤0):∀ (r v:Nat),f v≤EO A r (fun _=>0) v
 | 0,v=>h0 v
 | r+1,v=>PZ hf (JH hf h0 r) v
/-- Numbers made anew fit, and are small. -/
theorem VE {A:List Ar} {n:Nat} {q:Nat→Int} (hq:Fea A q) (hA:∀ a∈A,a.1<n∧a.2.1<n):Fea A (EO A n fun _=>0):=by
 have hf:=Tz hq hA;have h0:∀ v,DD A n v≤0:=fun v=>KY A v (Nat.zero_le n);have he:∀ v,EO A n (fun _=>0) v=DD A n v:=fun v=>Int.le_antisymm (JG A n v) (JH hf h0 n v);intro a ha;rw [he,he];exact hf a ha
theorem XR {A:List Ar} {n:Nat} {q:Nat→Int} (hq:Fea A q) (hA:∀ a∈A,a.1<n∧a.2.1<n) {m:Int} (hm:0≤m) (hc:∀ a∈A,-m≤a.2.2) (r v:Nat) : -(n*m)≤EO A r (fun _=>0) v∧EO A r (fun _=>0) v≤0 :=
 ⟨Int.le_trans (U6 hm hc n v) (JH (Tz hq hA) (fun v=>KY A v (Nat.zero_le n)) r v),Int.le_trans (JG A r v) (KY A v (Nat.zero_le r))⟩

end Go.Proofs.YtdagmpmdcgedcaaGreat

/- Plain law of flows: sums, what comes to a node, what stands over; cuts; the best is the least. -/
namespace Go.Proofs.YtdagmpmdcgedcaaGreat
open Go.GV

theorem Rj (a b:Int):a<b∨b≤a:=by omega
def B5 (f:Nat→Int):Nat→Int
 | 0=>0
 | k+1=>B5 f k+f k
theorem Cr {f g:Nat→Int}:∀ {k:Nat},(∀ i,i<k→f i=g i)→B5 f k=B5 g k
 | 0,_=>rfl
 | k+1,h=>by
  show B5 f k+f k=B5 g k+g k;rw [Cr fun i hi=>h i (by omega),h k (by omega)]
theorem MH (f g:Nat→Int):∀ k,B5 (fun i=>f i+g i) k=B5 f k+B5 g k
 | 0=>rfl
 | k+1=>by
  show B5 _ k+(f k+g k)=(B5 f k+f k)+(B5 g k+g k);rw [MH f g k]; omega
theorem MJ (f:Nat→Int):∀ k,B5 (fun i => -f i) k = -B5 f k
 | 0=>rfl
 | k+1=>by
  show B5 _ k + -f k = -(B5 f k+f k);rw [MJ f k]; omega
theorem JI (f g:Nat→Int) (k:Nat):B5 (fun i=>f i - g i) k=B5 f k - B5 g k:=by
 have h:=MH f (fun i => -g i) k;rw [MJ] at h;exact h
theorem Qa (c:Int) (f:Nat→Int):∀ k,B5 (fun i=>c*f i) k=c*B5 f k
 | 0=>by show (0:Int)=c*0; omega
 | k+1=>by
  show B5 _ k+c*f k=c*(B5 f k+f k);rw [Qa c f k,Int.mul_add]
theorem Gu:∀ k,B5 (fun _=>0) k=0
 | 0=>rfl
 | k+1=>by show B5 _ k+0=0; rw [Gu k]; rfl
theorem Ha {f:Nat→Int}:∀ {k:Nat},(∀ i,i<k→0≤f i)→0≤B5 f k
 | 0,_=>Int.le_refl _
 | k+1,h=>by
  have:=Ha (k:=k) fun i hi=>h i (by omega);have:=h k (by omega);show 0≤B5 f k+f k;omega
theorem Jq {f g:Nat→Int} {k:Nat} (h:∀ i,i<k→f i≤g i):B5 f k≤B5 g k:=by
 have h1:=Ha (f:=fun i=>g i - f i) (k:=k) fun i hi=>by have:=h i hi; omega
 rw [JI] at h1;omega
theorem Qb {f:Nat→Int}:∀ {k:Nat} {j:Nat},(∀ i,i<k→0≤f i)→j<k→0<f j→0<B5 f k
 | k+1,j,h,hj,hp=>by
  show 0<B5 f k+f k;have h1:=Ha (k:=k) fun i hi=>h i (by omega);have h2:=h k (by omega)
  by_cases e:j=k
  ·subst e; omega
  ·have:=Qb (k:=k) (j:=j) (fun i hi=>h i (by omega)) (by omega) hp;omega
theorem N7 (f:Nat→Nat→Int) (m:Nat):∀ k,B5 (fun i=>B5 (f i) m) k=B5 (fun j=>B5 (fun i=>f i j) k) m
 | 0=>(Gu m).symm
 | k+1=>by
  show B5 _ k+B5 (f k) m=B5 (fun j=>B5 (fun i=>f i j) k+f k j) m;rw [MH,N7 f m k]
/-- 1 if so. -/
def one (b:Prop) [Decidable b]:Int:=if b then 1 else 0
theorem GH (g:Nat→Int) {u:Nat}:∀ {k:Nat},u<k→B5 (fun v=>one (u=v)*g v) k=g u
 | k+1,h=>by
  show B5 _ k+one (u=k)*g k=g u
  by_cases e:u=k
  ·subst e
   have h1:B5 (fun v=>one (u=v)*g v) u=B5 (fun _=>0) u:=Cr fun i hi=>by
    unfold one; rw [if_neg (by omega)]; omega
   rw [h1,Gu,one,if_pos rfl]; omega
  ·rw [GH g (by omega:u<k),one,if_neg e]; omega

/-- Edges between nodes, at a cost. -/
structure Gr where
 N:Nat
 E:Nat
 f:Nat→Nat
 t:Nat→Nat
 co:Nat→Int
structure Gr.Ok (g:Gr):Prop where
 f:∀ i,i<g.E→g.f i<g.N
 t:∀ i,i<g.E→g.t i<g.N
/-- What comes to a node of the first edges, less what goes. -/
def DQ (g:Gr) (x:Nat→Int) (k v:Nat):Int:=B5 (fun i=>(one (g.t i=v) - one (g.f i=v))*x i) k
def B6 (g:Gr) (x:Nat→Int) (v:Nat):Int:=DQ g x g.E v
def Gv (g:Gr) (x:Nat→Int):Int:=B5 (fun i=>x i*g.co i) g.E
theorem T0 (g:Gr) (hg:g.Ok) (x r:Nat→Int):B5 (fun v=>B6 g x v*r v) g.N=B5 (fun i=>(r (g.t i) - r (g.f i))*x i) g.E:=by
 have h1:B5 (fun v=>B6 g x v*r v) g.N=B5 (fun v=>B5 (fun i=>(one (g.t i=v) - one (g.f i=v))*x i*r v) g.E) g.N:=Cr fun v _=>by
  unfold B6 DQ;rw [Int.mul_comm,← Qa];exact Cr fun i _=>by rw [Int.mul_comm]
 rw [h1,← N7];refine Cr fun i hi=>?_
 have h2:B5 (fun v=>(one (g.t i=v) - one (g.f i=v))*x i*r v) g.N=B5 (fun v=>one (g.t i=v)*(x i*r v) - one (g.f i=v)*(x i*r v)) g.N:=Cr fun v _=>by
  rw [Int.mul_assoc,Int.sub_mul]
 rw [h2,JI,GH (fun v=>x i*r v) (hg.t i hi),GH (fun v=>x i*r v) (hg.f i hi),Int.sub_mul,Int.mul_comm (r _),Int.mul_comm (r _)]
theorem over_all (g:Gr) (hg:g.Ok) (x:Nat→Int):B5 (B6 g x) g.N=0:=by
 have h:=T0 g hg x fun _=>1;have h1:B5 (fun v=>B6 g x v*1) g.N=B5 (B6 g x) g.N:=Cr fun v _=>by omega
 rw [← h1,h];have h2:B5 (fun i=>((1:Int) - 1)*x i) g.E=B5 (fun _=>0) g.E:=Cr fun i _=>by omega
 rw [h2,Gu]

/-! ### Arcs -/
def Gr.u (g:Gr) (a:Nat):Nat:=if a % 2=0 then g.f (a / 2) else g.t (a / 2)
def Gr.v (g:Gr) (a:Nat):Nat:=if a % 2=0 then g.t (a / 2) else g.f (a / 2)
def Gr.c (g:Gr) (a:Nat):Int:=if a % 2=0 then g.co (a / 2) else -g.co (a / 2)
def C6 (cap x:Nat→Int) (a:Nat):Int:=if a % 2=0 then cap (a / 2) - x (a / 2) else x (a / 2)
def Gr.len (g:Gr) (p:Nat→Int) (a:Nat):Int:=g.c a+p (g.u a) - p (g.v a)
/-- A flow within its caps, and numbers that fit it. -/
structure Fine (g:Gr) (cap x p:Nat→Int):Prop where
 in':∀ i,i<g.E→0≤x i∧x i≤cap i
 fit:∀ a,a<2*g.E→0<C6 cap x a→0≤g.len p a
theorem Gr.Ok.u {g:Gr} (h:g.Ok) {a:Nat} (ha:a<2*g.E):g.u a<g.N:=by
 unfold Gr.u; split
 ·exact h.f _ (by omega)
 ·exact h.t _ (by omega)
theorem Gr.Ok.v {g:Gr} (h:g.Ok) {a:Nat} (ha:a<2*g.E):g.v a<g.N:=by
 unfold Gr.v; split
 ·exact h.t _ (by omega)
 ·exact h.f _ (by omega)
theorem Jr (g:Gr) (i:Nat):g.u (2*i)=g.f i∧g.v (2*i)=g.t i∧g.c (2*i)=g.co i:=by
 unfold Gr.u Gr.v Gr.c;rw [if_pos (by omega),if_pos (by omega),if_pos (by omega),show 2*i / 2=i by omega];exact ⟨rfl,rfl,rfl⟩
theorem Le (g:Gr) (i:Nat):g.u (2*i+1)=g.t i∧g.v (2*i+1)=g.f i∧g.c (2*i+1) = -g.co i:=by
 unfold Gr.u Gr.v Gr.c;rw [if_neg (by omega),if_neg (by omega),if_neg (by omega),show (2*i+1) / 2=i by omega];exact ⟨rfl,rfl,rfl⟩
theorem Fine.fwd {g:Gr} {cap x p:Nat→Int} (h:Fine g cap x p) {i:Nat} (hi:i<g.E) (hr:x i<cap i):0≤g.co i+p (g.f i) - p (g.t i):=by
 have h1:=h.fit (2*i) (by omega) (by unfold C6; rw [if_pos (by omega),show 2*i / 2=i by omega]; omega);obtain ⟨a,b,c⟩:=Jr g i;unfold Gr.len at h1
 rwa [a,b,c] at h1
theorem Fine.bwd {g:Gr} {cap x p:Nat→Int} (h:Fine g cap x p) {i:Nat} (hi:i<g.E) (hr:0<x i):g.co i+p (g.f i) - p (g.t i)≤0:=by
 have h1:=h.fit (2*i+1) (by omega) (by unfold C6; rw [if_neg (by omega),show (2*i+1) / 2=i by omega]; exact hr);obtain ⟨a,b,c⟩:=Le g i;unfold Gr.len at h1;rw [a,b,c] at h1;omega
theorem Fine.of {g:Gr} {cap x p:Nat→Int} (h0:∀ i,i<g.E→0≤x i∧x i≤cap i) (h1:∀ i,i<g.E→x i<cap i→0≤g.co i+p (g.f i) - p (g.t i)) (h2:∀ i,i<g.E→0<x i→g.co i+p (g.f i) - p (g.t i)≤0):Fine g cap x p:=by
 refine ⟨h0,fun a ha hr=>?_⟩;have hm:a % 2=0∨a % 2=1:=by omega
 unfold Gr.len
 rcases hm with hm | hm
 ·obtain ⟨b,c,d⟩:=Jr g (a / 2);rw [show 2*(a / 2)=a by omega] at b c d;rw [b,c,d];unfold C6 at hr;rw [if_pos hm] at hr;exact h1 _ (by omega) (by omega)
 ·obtain ⟨b,c,d⟩:=Le g (a / 2);rw [show 2*(a / 2)+1=a by omega] at b c d;rw [b,c,d];unfold C6 at hr;rw [if_neg (by omega)] at hr;have:=h2 _ (by omega) hr;omega
/-- A flow with numbers that fit costs no more than any other one that goes round. -/
theorem Fine.best {g:Gr} (hg:g.Ok) {cap x p:Nat→Int} (h:Fine g cap x p) (hx:∀ v,v<g.N→B6 g x v=0) {y:Nat→Int} (hy:∀ i,i<g.E→0≤y i∧y i≤cap i) (hyo:∀ v,v<g.N→B6 g y v=0):Gv g x≤Gv g y:=by
 have hz:∀ z:Nat→Int,(∀ v,v<g.N→B6 g z v=0)→Gv g z=B5 (fun i=>(g.co i+p (g.f i) - p (g.t i))*z i) g.E:=fun z hz=>by
  have h1:=T0 g hg z p;have h2:B5 (fun v=>B6 g z v*p v) g.N=B5 (fun _=>0) g.N:=Cr fun v hv=>by rw [hz v hv]; omega
  rw [h2,Gu] at h1
  have h3:B5 (fun i=>(g.co i+p (g.f i) - p (g.t i))*z i) g.E=B5 (fun i=>z i*g.co i - (p (g.t i) - p (g.f i))*z i) g.E:=Cr fun i _=>by
   rw [Int.mul_comm (z i),← Int.sub_mul]; congr 1; omega
  rw [h3,JI,← h1];unfold Gv;omega
 rw [hz x hx,hz y hyo];refine Jq fun i hi=>?_;obtain ⟨a,b⟩:=h.in' i hi;obtain ⟨c,d⟩:=hy i hi
 rcases Rj (g.co i+p (g.f i) - p (g.t i)) 0 with h5 | h5
 ·have h6:x i=cap i:=by
   rcases Rj (x i) (cap i) with h7 | h7
   ·have:=h.fwd hi h7; omega
   ·omega
  exact Int.mul_le_mul_of_nonpos_left (by omega) (by omega)
 ·rcases Rj 0 (g.co i+p (g.f i) - p (g.t i)) with h6 | h6
  ·have h7:x i=0:=by
    rcases Rj 0 (x i) with h7 | h7
    ·have:=h.bwd hi h7; omega
    ·omega
   exact Int.mul_le_mul_of_nonneg_left (by omega) (by omega)
  ·rw [show g.co i+p (g.f i) - p (g.t i)=0 by omega]; omega

end Go.Proofs.YtdagmpmdcgedcaaGreat

/- Plain law of shortest ways: labels of nodes, set right arc by arc. -/
namespace Go.Proofs.YtdagmpmdcgedcaaGreat
open Go.GV

/-- Labels of nodes: how far (below 0: not reached), over how many arcs. -/
structure Lb where
 d:Nat→Int
 h:Nat→Nat
def le2 (d1:Int) (h1:Nat) (d2:Int) (h2:Nat):Prop:=d1<d2∨(d1=d2∧h1≤h2)
theorem le2.trans {a b c:Int} {x y z:Nat} (h1:le2 a x b y) (h2:le2 b y c z):le2 a x c z:=by unfold le2 at *; omega
theorem le2.refl (a:Int) (x:Nat):le2 a x a x := .inr ⟨rfl,Nat.le_refl _⟩
def DP (s:Lb) (v:Nat) (d:Int) (h:Nat):Prop:=s.d v = -1∨d<s.d v∨(d=s.d v∧h<s.h v)
instance (s:Lb) (v:Nat) (d:Int) (h:Nat):Decidable (DP s v d h):=by unfold DP; infer_instance
def Hb (s:Lb) (v:Nat) (d:Int) (h:Nat):Lb:=⟨fun u=>if u=v then d else s.d u,fun u=>if u=v then h else s.h u⟩
def Gw (s:Lb) (a:Ar):Lb:=if DP s a.2.1 (s.d a.1+a.2.2) (s.h a.1+1) then Hb s a.2.1 (s.d a.1+a.2.2) (s.h a.1+1) else s
def HQ (s:Lb) (a:Ar) (hp:List (Int × Nat)):List (Int × Nat):=if DP s a.2.1 (s.d a.1+a.2.2) (s.h a.1+1) then (s.d a.1+a.2.2,a.2.1)::hp else hp
/-- Arcs that may be. -/
def Qc (A:List Ar) (n:Nat) (m:Int):Prop:=∀ a∈A,a.1<n∧a.2.1<n∧0≤a.2.2∧a.2.2≤m
structure DJ (A:List Ar) (src:List Nat) (n:Nat) (m:Int) (s:Lb):Prop where
 low:∀ v,s.d v = -1∨0≤s.d v
 src':∀ v∈src,v<n∧s.d v=0∧s.h v=0
 zero:∀ v,s.d v ≠ -1→s.h v=0→v∈src
 none':∀ v,s.d v = -1→s.h v=0
 pre:∀ v,s.d v ≠ -1→s.h v≠0→∃ a∈A,a.2.1=v∧s.d a.1 ≠ -1∧le2 (s.d a.1+a.2.2) (s.h a.1+1) (s.d v) (s.h v)
 walk:∀ v,s.d v ≠ -1→∃ W:List Nat,W.Nodup∧W.length=s.h v+1∧∀ x∈W,x<n∧s.d x ≠ -1∧le2 (s.d x) (s.h x) (s.d v) (s.h v)
 bnd:∀ v,s.d v ≠ -1→s.d v≤s.h v*m
def Rlx (s:Lb) (a:Ar):Prop:=s.d a.2.1 ≠ -1∧le2 (s.d a.2.1) (s.h a.2.1) (s.d a.1+a.2.2) (s.h a.1+1)
/-- Each node's arcs are done, or it waits; of u those of done are. -/
def Clo (A:List Ar) (s:Lb) (hp:List (Int × Nat)) (u:Nat) (done:List Ar):Prop :=
 ∀ v,s.d v ≠ -1→(s.d v,v)∈hp∨∀ a∈A,a.1=v→(v=u→a∈done)→Rlx s a
def XS (n:Nat) (m:Int) (s:Lb) (v:Nat):Int:=if s.d v = -1 then n*m*64+64 else s.d v*64+s.h v
def meas (n:Nat) (m:Int) (s:Lb) (hp:List (Int × Nat)):Int:=2*B5 (XS n m s) n+hp.length
theorem DJ.hops {A:List Ar} {src:List Nat} {n:Nat} {m:Int} {s:Lb} (J:DJ A src n m s) {v:Nat} (hv:s.d v ≠ -1):s.h v+1≤n:=by
 obtain ⟨W,h1,h2,h3⟩:=J.walk v hv;rw [← h2];exact KZ n W h1 fun x hx=>(h3 x hx).1
section
variable {A:List Ar} {src:List Nat} {n:Nat} {m:Int} {s:Lb} {hp:List (Int × Nat)} {u:Nat} {dn:List Ar} {a:Ar}
theorem DJ.relax (hA:Qc A n m) (hm:0≤m) (hn:n≤60) (J:DJ A src n m s) (K:Clo A s hp u dn) (ha:a∈A) (hu:a.1=u) (hd:s.d u ≠ -1) :
  DJ A src n m (Gw s a)∧Clo A (Gw s a) (HQ s a hp) u (dn++[a])∧(Gw s a).d u=s.d u∧(Gw s a).h u=s.h u∧meas n m (Gw s a) (HQ s a hp)≤meas n m s hp:=by
 subst hu;obtain ⟨hu1,hv1,hl0,hlm⟩:=hA a ha;have hdu:=(J.low a.1).resolve_left hd
 by_cases hb:DP s a.2.1 (s.d a.1+a.2.2) (s.h a.1+1)
 ·obtain ⟨d',hd'⟩:∃ d',d'=s.d a.1+a.2.2:=⟨_,rfl⟩;obtain ⟨h',hh'⟩:∃ h',h'=s.h a.1+1:=⟨_,rfl⟩;obtain ⟨v,hv⟩:∃ v,v=a.2.1:=⟨_,rfl⟩;have hS:Gw s a=Hb s v d' h':=by unfold Gw; rw [if_pos hb,hd',hh',hv]
  have hH:HQ s a hp=(d',v)::hp:=by unfold HQ; rw [if_pos hb,hd',hv]
  rw [← hd',← hh',← hv] at hb;rw [← hv] at hv1
  have hvu:v≠a.1:=fun e=>by
   unfold DP at hb; rw [e] at hb;omega
  rw [hS,hH];have p1:(Hb s v d' h').d v=d':=if_pos rfl;have p2:(Hb s v d' h').h v=h':=if_pos rfl;have p3:∀ x,x≠v→(Hb s v d' h').d x=s.d x:=fun x hx=>if_neg hx;have p4:∀ x,x≠v→(Hb s v d' h').h x=s.h x:=fun x hx=>if_neg hx
  have hsrc:v∉src:=fun hs=>by
   obtain ⟨_,q1,q2⟩:=J.src' v hs;unfold DP at hb; rw [q1,q2] at hb; omega
  -- labels become no greater
  have hless:∀ x,s.d x ≠ -1→(Hb s v d' h').d x ≠ -1∧le2 ((Hb s v d' h').d x) ((Hb s v d' h').h x) (s.d x) (s.h x):=fun x hx=>by
   by_cases e:x=v
   ·subst e;rw [p1,p2];unfold DP at hb;exact ⟨by omega,by unfold le2; omega⟩
   ·rw [p3 x e,p4 x e]; exact ⟨hx,le2.refl _ _⟩
  have hadd:∀ {x:Nat} (l:Int),s.d x ≠ -1→le2 ((Hb s v d' h').d x+l) ((Hb s v d' h').h x+1) (s.d x+l) (s.h x+1):=fun {x} l hx=>by
   have:=(hless x hx).2; unfold le2 at *; omega
  -- the way to v
  obtain ⟨W,w1,w2,w3⟩:=J.walk a.1 hd
  have hvW:v∉W:=fun hx=>by
   have q:=(w3 v hx).2;unfold DP at hb; unfold le2 at q;omega
  have hWn:(W++[v]).Nodup:=by
   rw [List.nodup_append];exact ⟨w1,by simp,fun x hx y hy e=>by rw [List.mem_singleton.1 hy] at e; exact hvW (e ▸ hx)⟩
  have hWl:(W++[v]).length=h'+1:=by rw [List.length_append,w2,hh']; rfl
  have hh'n:h'+1≤n:=by
   rw [← hWl];exact KZ n _ hWn fun x hx=>(List.mem_append.1 hx).elim (fun h=>(w3 x h).1) fun h=>by rw [List.mem_singleton.1 h]; exact hv1
  have hbd:d'≤h'*m:=by
   have q:=J.bnd a.1 hd;rw [hd',hh',Int.natCast_add,Int.add_mul]; simp; omega
  have J':DJ A src n m (Hb s v d' h'):=by
   refine ⟨fun x=>?_,fun x hx=>?_,fun x hx h0=>?_,fun x hx=>?_,fun x hx h0=>?_,fun x hx=>?_,fun x hx=>?_⟩
   ·by_cases e:x=v
    ·subst e; rw [p1]; omega
    ·rw [p3 x e]; exact J.low x
   ·have e:x≠v:=fun e=>hsrc (e ▸ hx);rw [p3 x e,p4 x e]; exact J.src' x hx
   ·by_cases e:x=v
    ·subst e; rw [p2] at h0; omega
    ·rw [p3 x e] at hx; rw [p4 x e] at h0; exact J.zero x hx h0
   ·by_cases e:x=v
    ·subst e; rw [p1] at hx; omega
    ·rw [p3 x e] at hx; rw [p4 x e]; exact J.none' x hx
   ·by_cases e:x=v
    ·subst e;refine ⟨a,ha,hv.symm,?_,?_⟩
     ·rw [p3 _ (Ne.symm hvu)]; exact hd
     ·rw [p1,p2,p3 _ (Ne.symm hvu),p4 _ (Ne.symm hvu),← hd',← hh']; exact le2.refl _ _
    ·rw [p3 x e] at hx ⊢; rw [p4 x e] at h0 ⊢;obtain ⟨b,hb1,hb2,hb3,hb4⟩:=J.pre x hx h0;exact ⟨b,hb1,hb2,(hless _ hb3).1,(hadd _ hb3).trans hb4⟩
   ·by_cases e:x=v
    ·subst e;refine ⟨W++[x],hWn,by rw [hWl,p2],fun y hy=>?_⟩;rw [p1,p2]
     rcases List.mem_append.1 hy with hy | hy
     ·obtain ⟨q1,q2,q3⟩:=w3 y hy;refine ⟨q1,(hless y q2).1,(hless y q2).2.trans (q3.trans ?_)⟩;unfold le2; omega
     ·rw [List.mem_singleton.1 hy,p1,p2];exact ⟨hv1,by omega,le2.refl _ _⟩
    ·rw [p3 x e] at hx ⊢; rw [p4 x e];obtain ⟨W2,q1,q2,q3⟩:=J.walk x hx;exact ⟨W2,q1,q2,fun y hy=>⟨(q3 y hy).1,(hless y (q3 y hy).2.1).1,(hless y (q3 y hy).2.1).2.trans (q3 y hy).2.2⟩⟩
   ·by_cases e:x=v
    ·subst e; rw [p1,p2]; exact hbd
    ·rw [p3 x e] at hx ⊢; rw [p4 x e]; exact J.bnd x hx
  have hval:∀ x,XS n m (Hb s v d' h') x≤XS n m s x - one (v=x):=fun x=>by
   by_cases e:x=v
   ·subst e;unfold one; rw [if_pos rfl];unfold XS;rw [p1,p2,if_neg (show ¬ d' = -1 by omega)]
    split
    ·have q:(h':Int)*m≤(n:Int)*m:=Int.mul_le_mul_of_nonneg_right (by omega) hm;omega
    ·have q1:=(J.low x).resolve_left ‹_›;unfold DP at hb;omega
   ·have e1:one (v=x)=0:=if_neg fun h=>e h.symm;unfold XS;rw [p3 x e,p4 x e,e1,Int.sub_zero];exact Int.le_refl _
  refine ⟨J',fun x hx=>?_,p3 _ (Ne.symm hvu),p4 _ (Ne.symm hvu),?_⟩
  ·by_cases e:x=v
   ·subst e; left; rw [p1]; exact List.mem_cons_self ..
   ·rw [p3 x e] at hx ⊢
    rcases K x hx with q | q
    ·exact .inl (List.mem_cons_of_mem _ q)
    ·refine .inr fun b hb1 hb2 hb3=>?_
     by_cases eb:b=a
     ·subst eb;refine ⟨by rw [← hv,p1]; omega,?_⟩;rw [← hv,p1,p2,p3 _ (Ne.symm hvu),p4 _ (Ne.symm hvu),← hd',← hh']; exact le2.refl _ _
     ·obtain ⟨r1,r2⟩:=q b hb1 hb2 fun h=>(List.mem_append.1 (hb3 h)).resolve_right fun h=>eb (List.mem_singleton.1 h);refine ⟨(hless _ r1).1,(hless _ r1).2.trans ?_⟩;have eb1:b.1≠v:=by rw [hb2]; exact e
      rw [p3 _ eb1,p4 _ eb1]; exact r2
  ·unfold meas;have q1:=Jq (k:=n) fun i _=>hval i;rw [JI] at q1;have q2:=GH (fun _=>(1:Int)) hv1;have q3:B5 (fun x=>one (v=x)) n=B5 (fun x=>one (v=x)*1) n:=Cr fun i _=>by omega
   rw [← q3] at q2;rw [List.length_cons];omega
 ·have hS:Gw s a=s:=by unfold Gw; rw [if_neg hb]
  have hH:HQ s a hp=hp:=by unfold HQ; rw [if_neg hb]
  rw [hS,hH];refine ⟨J,fun x hx=>?_,rfl,rfl,Int.le_refl _⟩
  rcases K x hx with q | q
  ·exact .inl q
  ·refine .inr fun b hb1 hb2 hb3=>?_
   by_cases eb:b=a
   ·subst eb;unfold DP at hb;unfold Rlx le2;omega
   ·exact q b hb1 hb2 fun h=>(List.mem_append.1 (hb3 h)).resolve_right fun h=>eb (List.mem_singleton.1 h)
/-- The first labels: some nodes at no distance. -/
def lb0 (src:List Nat):Lb:=⟨fun v=>if v∈src then 0 else -1,fun _=>0⟩
theorem DJ.start (hs:∀ v∈src,v<n):DJ A src n m (lb0 src):=by
 have h1:∀ v,(lb0 src).d v ≠ -1→v∈src:=fun v hv=>Classical.byContradiction fun h=>hv (if_neg h);refine ⟨fun v=>?_,fun v hv=>⟨hs v hv,if_pos hv,rfl⟩,fun v hv _=>h1 v hv,fun v _=>rfl,fun v _ h=>absurd rfl h,fun v hv=>⟨[v],by simp,rfl,fun x hx=>?_⟩,fun v hv=>?_⟩
 ·unfold lb0; dsimp only; split
  ·exact .inr (Int.le_refl _)
  ·exact .inl U
 ·rw [List.mem_singleton.1 hx]; exact ⟨hs v (h1 v hv),hv,le2.refl _ _⟩
 ·have:(lb0 src).d v=0:=if_pos (h1 v hv);rw [this]; show (0:Int)≤((0:Nat):Int)*m; omega
/-- What the labels tell in the end. -/
structure Done (A:List Ar) (src:List Nat) (n:Nat) (m:Int) (s:Lb):Prop where
 J:DJ A src n m s
 arc:∀ a∈A,s.d a.1 ≠ -1→s.d a.2.1 ≠ -1∧s.d a.2.1≤s.d a.1+a.2.2
 pre:∀ v,s.d v ≠ -1→s.h v≠0→∃ a∈A,a.2.1=v∧s.d a.1 ≠ -1∧s.d a.1+a.2.2=s.d v∧s.h a.1+1=s.h v
theorem DJ.ends (J:DJ A src n m s) (K:Clo A s [] u A):Done A src n m s:=by
 have hr:∀ a∈A,s.d a.1 ≠ -1→Rlx s a:=fun a ha h=>(K a.1 h).elim (fun h=>by cases h) fun h=>h a ha rfl fun _=>ha;refine ⟨J,fun a ha h=>?_,fun v hv h0=>?_⟩
 ·obtain ⟨h1,h2⟩:=hr a ha h;exact ⟨h1,by unfold le2 at h2; omega⟩
 ·obtain ⟨a,ha,h1,h2,h3⟩:=J.pre v hv h0;obtain ⟨h4,h5⟩:=hr a ha h2;rw [h1] at h5;refine ⟨a,ha,h1,h2,?_,?_⟩
  ·unfold le2 at h3 h5; omega
  ·unfold le2 at h3 h5; omega
end

end Go.Proofs.YtdagmpmdcgedcaaGreat

/- Plain law of flows: a way is filled. -/
namespace Go.Proofs.YtdagmpmdcgedcaaGreat
open Go.GV

/-- The arcs with room, with their lengths. -/
def Mz (g:Gr) (cap x p:Nat→Int):List Ar:=((List.range (2*g.E)).filter fun a=>decide (0<C6 cap x a)).map fun a=>(g.u a,g.v a,g.len p a)
theorem Js {g:Gr} {cap x p:Nat→Int} {b:Ar}:b∈Mz g cap x p↔∃ a,a<2*g.E∧0<C6 cap x a∧b=(g.u a,g.v a,g.len p a):=by
 unfold Mz;rw [List.mem_map];constructor
 ·rintro ⟨a,ha,rfl⟩;rw [List.mem_filter,List.mem_range,decide_eq_true_eq] at ha;exact ⟨a,ha.1,ha.2,rfl⟩
 ·rintro ⟨a,h1,h2,rfl⟩;exact ⟨a,List.mem_filter.2 ⟨List.mem_range.2 h1,decide_eq_true h2⟩,rfl⟩
theorem Fine.arcs {g:Gr} (hg:g.Ok) {cap x p:Nat→Int} (h:Fine g cap x p) {m:Int} (hm:∀ a,a<2*g.E→g.len p a≤m):Qc (Mz g cap x p) g.N m:=fun b hb=>by
 obtain ⟨a,h1,h2,rfl⟩:=Js.1 hb;exact ⟨hg.u h1,hg.v h1,h.fit a h1 h2,hm a h1⟩
/-- Where there is over somewhere, it is short somewhere that is reached. -/
theorem reach {g:Gr} (hg:g.Ok) {cap x p:Nat→Int} (h:Fine g cap x p) {src:List Nat} {m:Int} {s:Lb} (D:Done (Mz g cap x p) src g.N m s) {v:Nat} (hv:v<g.N) (hd:s.d v ≠ -1) (ho:0<B6 g x v):∃ w,w<g.N∧s.d w ≠ -1∧B6 g x w<0:=by
 refine Classical.byContradiction fun hn=>?_;obtain ⟨r,hr⟩:∃ r:Nat→Int,r=fun v=>if s.d v ≠ -1 then 1 else 0:=⟨_,rfl⟩;have hr1:∀ {v:Nat},s.d v ≠ -1→r v=1:=fun {v} h=>by rw [hr]; exact if_pos h
 have hr0:∀ {v:Nat},s.d v = -1→r v=0:=fun {v} h=>by rw [hr]; exact if_neg fun h2=>h2 h
 have h1:0<B5 (fun v=>B6 g x v*r v) g.N:=by
  refine Qb (j:=v) (fun w hw=>?_) hv (by rw [hr1 hd]; omega)
  by_cases e:s.d w = -1
  ·rw [hr0 e]; omega
  ·rw [hr1 e];have:=Int.not_lt.1 fun h5=>hn ⟨w,hw,e,h5⟩;omega
 rw [T0 g hg x r] at h1
 have h2:B5 (fun i=>(r (g.t i) - r (g.f i))*x i) g.E≤B5 (fun _=>0) g.E:=Jq fun i hi=>by
  obtain ⟨hx0,hx1⟩:=h.in' i hi
  by_cases e1:s.d (g.t i) = -1
  ·rw [hr0 e1]
   by_cases e2:s.d (g.f i) = -1
   ·rw [hr0 e2]; omega
   ·rw [hr1 e2]; omega
  ·rw [hr1 e1]
   by_cases e2:s.d (g.f i) = -1
   ·have e3:x i=0:=by
     rcases Rj 0 (x i) with h5 | h5
     ·exfalso;obtain ⟨a1,a2,a3⟩:=Le g i;have:=D.arc _ (Js.2 ⟨2*i+1,by omega,by unfold C6; rw [if_neg (by omega),show (2*i+1) / 2=i by omega]; exact h5,rfl⟩) (by dsimp only; rw [a1]; exact e1);dsimp only at this;rw [a2] at this;exact this.1 e2
     ·omega
    rw [e3]; omega
   ·rw [hr1 e2]; omega
 rw [Gu] at h2;omega
/-! ### A way back -/
structure Way1 (g:Gr) (cap x p:Nat→Int) (s:Lb) (a:Nat):Prop where
 lt:a<2*g.E
 room:0<C6 cap x a
 du:s.d (g.u a) ≠ -1
 dv:s.d (g.v a) ≠ -1
 d:s.d (g.u a)+g.len p a=s.d (g.v a)
 h:s.h (g.u a)+1=s.h (g.v a)
/-- Each node's last arc. -/
def Bys (g:Gr) (cap x p:Nat→Int) (s:Lb) (by':Nat→Option Nat):Prop :=
 (∀ v,s.d v = -1∨s.h v=0→by' v=none)∧∀ v,s.d v ≠ -1→s.h v≠0→∃ a,by' v=some a∧Way1 g cap x p s a∧g.v a=v
def DR (by':Nat→Option Nat) (g:Gr):Nat→Nat→List Nat
 | 0,_=>[]
 | k+1,v=>match by' v with
  | none=>[]
  | some a=>a::DR by' g k (g.u a)
def Mk (by':Nat→Option Nat) (g:Gr):Nat→Nat→Nat
 | 0,v=>v
 | k+1,v=>match by' v with
  | none=>v
  | some a=>Mk by' g k (g.u a)
section
variable {g:Gr} {cap x p:Nat→Int} {s:Lb} {by':Nat→Option Nat}
theorem GP {k v a:Nat} (h:by' v=some a):DR by' g (k+1) v=a::DR by' g k (g.u a)∧Mk by' g (k+1) v=Mk by' g k (g.u a):=by
 constructor
 ·show (match by' v with | none=>[] | some a=>a::DR by' g k (g.u a))=_;rw [h]
 ·show (match by' v with | none=>v | some a=>Mk by' g k (g.u a))=_;rw [h]
theorem JJ (hB:Bys g cap x p s by'):∀ {k v:Nat},s.d v ≠ -1→s.h v=k→(∀ a∈DR by' g k v,Way1 g cap x p s a∧s.h (g.v a)≤k)∧(DR by' g k v).Pairwise (fun a b=>s.h (g.v b)<s.h (g.v a))∧s.d (Mk by' g k v) ≠ -1∧s.h (Mk by' g k v)=0
 | 0,v,hd,hk=>⟨(fun a h=>by cases h),List.Pairwise.nil,hd,hk⟩
 | k+1,v,hd,hk=>by
  obtain ⟨a,h1,h2,h3⟩:=hB.2 v hd (by omega);obtain ⟨e1,e2⟩:=GP (g:=g) (k:=k) h1;have hh:=h2.h;rw [h3,hk] at hh;obtain ⟨q1,q2,q3,q4⟩:=JJ hB (k:=k) h2.du (by omega);rw [e1,e2];refine ⟨fun b hb=>?_,List.Pairwise.cons (fun b hb=>?_) q2,q3,q4⟩
  ·rcases List.mem_cons.1 hb with rfl | hb
   ·exact ⟨h2,by rw [h3]; omega⟩
   ·exact ⟨(q1 b hb).1,by have:=(q1 b hb).2; omega⟩
  ·have:=(q1 b hb).2;rw [h3]; omega
/-- No edge comes twice. -/
theorem N8 (hB:Bys g cap x p s by') {k v:Nat} (hd:s.d v ≠ -1) (hk:s.h v=k):(DR by' g k v).Pairwise (fun a b=>a / 2≠b / 2):=by
 obtain ⟨q1,q2,-,-⟩:=JJ hB hd hk;refine List.Pairwise.imp_of_mem (R:=fun a b=>s.h (g.v b)<s.h (g.v a)) (fun {a b} ha hb hab he=>?_) q2;have wa:=(q1 a ha).1; have wb:=(q1 b hb).1;have h1:=wa.h; have h2:=wb.h
 by_cases e:a=b
 ·rw [e] at hab; omega
 ·have hm:a % 2≠b % 2:=by omega
  have e1:g.u a=g.v b:=by
   unfold Gr.u Gr.v; rw [he]
   split
   ·rw [if_neg (by omega)]
   ·rw [if_pos (by omega)]
  have e2:g.v a=g.u b:=by
   unfold Gr.u Gr.v; rw [he]
   split
   ·rw [if_neg (by omega)]
   ·rw [if_pos (by omega)]
  rw [e1] at h1; rw [e2] at h1 hab;omega
end
/-! ### Pushing -/
def Ig (m:Int) (x:Nat→Int) (a:Nat):Nat→Int:=fun i=>if i=a / 2 then (if a % 2=0 then x i+m else x i - m) else x i
def Fh (m:Int) (x:Nat→Int) (l:List Nat):Nat→Int:=l.foldl (Ig m) x
theorem OM (g:Gr) (m:Int) (x:Nat→Int) {a:Nat} (ha:a<2*g.E) (w:Nat):B6 g (Ig m x a) w=B6 g x w+m*(one (g.v a=w) - one (g.u a=w)):=by
 have hi:a / 2<g.E:=by omega
 have h1:B6 g (Ig m x a) w=B5 (fun i=>(one (g.t i=w) - one (g.f i=w))*x i+one (a / 2=i)*((one (g.t i=w) - one (g.f i=w))*(if a % 2=0 then m else -m))) g.E:=Cr fun i _=>by
  by_cases e:i=a / 2
  ·have h1:Ig m x a i=if a % 2=0 then x i+m else x i - m:=if_pos e;have h2:one (a / 2=i)=1:=if_pos e.symm;rw [h1,h2]
   by_cases hp:a % 2=0
   ·rw [if_pos hp,if_pos hp,Int.mul_add,Int.one_mul]
   ·rw [if_neg hp,if_neg hp,Int.mul_sub,Int.one_mul,Int.mul_neg]; omega
  ·have h1:Ig m x a i=x i:=if_neg e;have h2:one (a / 2=i)=0:=if_neg (Ne.symm e);rw [h1,h2]; omega
 rw [h1,MH,GH (fun i=>(one (g.t i=w) - one (g.f i=w))*(if a % 2=0 then m else -m)) hi];unfold B6 DQ Gr.u Gr.v
 split
 ·rw [Int.mul_comm m]
 ·congr 1
  rw [Int.mul_neg,← Int.neg_mul,Int.mul_comm m]; congr 1; omega
theorem Ml (g:Gr) (m:Int) {cap p:Nat→Int} {x0:Nat→Int} {s:Lb} {by':Nat→Option Nat} (hB:Bys g cap x0 p s by') (w:Nat):∀ {k v:Nat} (x:Nat→Int),s.d v ≠ -1→s.h v=k→B6 g (Fh m x (DR by' g k v)) w=B6 g x w+m*(one (v=w) - one (Mk by' g k v=w))
 | 0,v,x,_,_=>by
  show B6 g x w=B6 g x w+m*(one (v=w) - one (v=w));rw [Int.sub_self]; omega
 | k+1,v,x,hd,hk=>by
  obtain ⟨a,h1,h2,h3⟩:=hB.2 v hd (by omega);obtain ⟨e1,e2⟩:=GP (g:=g) (k:=k) h1;have hh:=h2.h;rw [h3,hk] at hh;rw [e1,e2];show B6 g (Fh m (Ig m x a) (DR by' g k (g.u a))) w=_;rw [Ml g m hB w (k:=k) (Ig m x a) h2.du (by omega),OM g m x h2.lt,h3,Int.add_assoc,← Int.mul_add]
  congr 2; omega
theorem IB {m:Int} {x:Nat→Int}:∀ {l:List Nat} {i:Nat},(∀ a∈l,a / 2≠i)→Fh m x l i=x i
 | [],i,_=>rfl
 | a::l,i,h=>by
  show Fh m (Ig m x a) l i=_;rw [IB (l:=l) fun b hb=>h b (List.mem_cons_of_mem _ hb)];exact if_neg fun e=>h a (List.mem_cons_self ..) e.symm
theorem U8 {m:Int}:∀ {l:List Nat} {x:Nat→Int} {a:Nat},l.Pairwise (fun a b=>a / 2≠b / 2)→a∈l→Fh m x l (a / 2)=if a % 2=0 then x (a / 2)+m else x (a / 2) - m
 | b::l,x,a,hp,ha=>by
  obtain ⟨h1,h2⟩:=List.pairwise_cons.1 hp;show Fh m (Ig m x b) l (a / 2)=_
  by_cases e:a=b
  ·subst e;rw [IB fun c hc=>Ne.symm (h1 c hc)];exact if_pos U
  ·have ha':=(List.mem_cons.1 ha).resolve_left e;rw [U8 h2 ha'];have:Ig m x b (a / 2)=x (a / 2):=if_neg (Ne.symm (h1 a ha'));rw [this]
/-- How much numbers are raised. -/
def Qd (s:Lb) (D:Int) (v:Nat):Int:=if s.d v<0∨D<s.d v then D else s.d v
/-- Behind a way that is filled all fits. -/
theorem VF {g:Gr} {cap x p:Nat→Int} (h:Fine g cap x p) {src:List Nat} {m0:Int} {s:Lb} (D:Done (Mz g cap x p) src g.N m0 s) {by':Nat→Option Nat} (hB:Bys g cap x p s by') {v:Nat} (hd:s.d v ≠ -1) {m:Int} (hm:0≤m) (hr:∀ a∈DR by' g (s.h v) v,m≤C6 cap x a) :
  Fine g cap (Fh m x (DR by' g (s.h v) v)) (fun w=>p w+Qd s (s.d v) w):=by
 obtain ⟨q1,-,-,-⟩:=JJ hB hd rfl;have hpe:=N8 hB hd rfl;have hlow:=D.J.low;have hdv:=(hlow v).resolve_left hd
 have hlen:∀ a,a<2*g.E→0<C6 cap x a→0≤g.len p a+Qd s (s.d v) (g.u a) - Qd s (s.d v) (g.v a):=fun a ha hra=>by
  have h1:=h.fit a ha hra;have h2:=D.arc _ (Js.2 ⟨a,ha,hra,rfl⟩);dsimp only at h2;have h3:=hlow (g.u a); have h4:=hlow (g.v a);unfold Qd
  by_cases e:s.d (g.u a) = -1
  ·rw [if_pos (.inl (by omega))]
   split <;> omega
  ·obtain ⟨h5,h6⟩:=h2 e
   split <;> split <;> omega
 have htight:∀ a∈DR by' g (s.h v) v,g.len p a+Qd s (s.d v) (g.u a) - Qd s (s.d v) (g.v a)=0:=fun a ha=>by
  -- all nodes of the way are no farther
  have hle:∀ {k w:Nat},s.d w ≠ -1→s.h w=k→∀ a∈DR by' g k w,s.d (g.v a)≤s.d w:=fun {k}=>by
   induction k with
   | zero=>intro w _ _ a ha; cases ha
   | succ k ih =>
    intro w hw hk a ha;obtain ⟨b,h1,h2,h3⟩:=hB.2 w hw (by omega);obtain ⟨e1,-⟩:=GP (g:=g) (k:=k) h1;rw [e1] at ha;have hh:=h2.h;rw [h3,hk] at hh;have hfit:=h.fit b h2.lt h2.room;have hdd:=h2.d;rw [h3] at hdd
    rcases List.mem_cons.1 ha with rfl | ha
    ·rw [h3]; exact Int.le_refl _
    ·have:=ih h2.du (by omega) a ha; omega
  have h1:=hle hd rfl a ha;have w1:=(q1 a ha).1;have h2:=(hlow (g.u a)).resolve_left w1.du;have h3:=(hlow (g.v a)).resolve_left w1.dv;have h4:=w1.d;have h5:=h.fit a w1.lt w1.room;unfold Qd;rw [if_neg (by omega),if_neg (by omega)];omega
 have hone:∀ i,i<g.E→(Fh m x (DR by' g (s.h v) v) i=x i∧∀ a∈DR by' g (s.h v) v,a / 2≠i)∨∃ a∈DR by' g (s.h v) v,a / 2=i:=fun i _=>by
  by_cases e:∃ a∈DR by' g (s.h v) v,a / 2=i
  ·exact .inr e
  ·have:∀ a∈DR by' g (s.h v) v,a / 2≠i:=fun a ha he=>e ⟨a,ha,he⟩
   exact .inl ⟨IB this,this⟩
 have hz:∀ i,i<g.E→(∃ a∈DR by' g (s.h v) v,a / 2=i)→g.co i+(p (g.f i)+Qd s (s.d v) (g.f i)) - (p (g.t i)+Qd s (s.d v) (g.t i))=0:=fun i hi ⟨a,ha,he⟩=>by
  have h1:=htight a ha;unfold Gr.len at h1
  rcases (by omega:a=2*i∨a=2*i+1) with rfl | rfl
  ·obtain ⟨b,c,d⟩:=Jr g i;rw [b,c,d] at h1; omega
  ·obtain ⟨b,c,d⟩:=Le g i;rw [b,c,d] at h1; omega
 refine Fine.of (fun i hi=>?_) (fun i hi hx=>?_) (fun i hi hx=>?_)
 ·obtain ⟨h1,h2⟩:=h.in' i hi
  rcases hone i hi with ⟨e,_⟩ | ⟨a,ha,he⟩
  ·rw [e]; exact ⟨h1,h2⟩
  ·have h3:=hr a ha;have h4:=U8 (m:=m) (x:=x) hpe ha;rw [he] at h4;rw [h4];unfold C6 at h3;rw [he] at h3
   split
   ·rename_i e; rw [if_pos e] at h3; omega
   ·rename_i e; rw [if_neg e] at h3; omega
 ·rcases hone i hi with ⟨e,_⟩ | e
  ·rw [e] at hx;have h1:=hlen (2*i) (by omega) (by unfold C6; rw [if_pos (by omega),show 2*i / 2=i by omega]; omega);obtain ⟨b,c,d⟩:=Jr g i;unfold Gr.len at h1;rw [b,c,d] at h1;omega
  ·have:=hz i hi e; omega
 ·rcases hone i hi with ⟨e,_⟩ | e
  ·rw [e] at hx;have h1:=hlen (2*i+1) (by omega) (by unfold C6; rw [if_neg (by omega),show (2*i+1) / 2=i by omega]; exact hx);obtain ⟨b,c,d⟩:=Le g i;unfold Gr.len at h1;rw [b,c,d] at h1;omega
  ·have:=hz i hi e; omega
/-! ### How much stands over -/
def XT (x:Int):Int:=if 0<x then x else 0
def Hd (g:Gr) (x:Nat→Int):Int:=B5 (fun v=>XT (B6 g x v)) g.N
theorem Rl {g:Gr} (hg:g.Ok) {x:Nat→Int} (h:∀ v,v<g.N→B6 g x v≤0):∀ v,v<g.N→B6 g x v=0:=fun v hv=>by
 have h1:=over_all g hg x
 rcases Rj (B6 g x v) 0 with h2 | h2
 ·have h3:=Qb (f:=fun v => -B6 g x v) (k:=g.N) (j:=v) (fun i hi=>by have:=h i hi; omega) hv (by omega);rw [MJ,h1] at h3;omega
 ·have:=h v hv; omega
theorem VG {g:Gr} {x x':Nat→Int} {u v:Nat} {m:Int} (hu:u<g.N) (hm:0<m) (hmu:m≤B6 g x u) (hmv:m ≤ -B6 g x v) (h:∀ w,B6 g x' w=B6 g x w+m*(one (v=w) - one (u=w))):Hd g x'+m≤Hd g x:=by
 have hne:u≠v:=fun e=>by subst e; omega
 have h1:∀ w,XT (B6 g x' w)≤XT (B6 g x w) - one (u=w)*m:=fun w=>by
  rw [h w];unfold one XT
  by_cases e1:v=w
  ·subst e1;rw [if_pos rfl,if_neg hne]
   split <;> split <;> omega
  ·rw [if_neg e1]
   by_cases e2:u=w
   ·subst e2;rw [if_pos rfl]
    split <;> split <;> omega
   ·rw [if_neg e2]
    split <;> split <;> omega
 have h2:=Jq (k:=g.N) fun w _=>h1 w;rw [JI,GH (fun _=>m) hu] at h2;unfold Hd; omega
theorem VH (g:Gr) (x:Nat→Int):0≤Hd g x:=Ha fun i _=>by unfold XT; split <;> omega

end Go.Proofs.YtdagmpmdcgedcaaGreat

/- Plain law of flows: finer caps; bounds. -/
namespace Go.Proofs.YtdagmpmdcgedcaaGreat
open Go.GV

/-- What flows once caps are finer: twice as much, and edges that gain are filled. -/
def Jt (g:Gr) (cap' x p:Nat→Int) (i:Nat):Int:=if 2*x i<cap' i∧g.co i+p (g.f i) - p (g.t i)<0 then cap' i else 2*x i
theorem N9 {g:Gr} {cap cap' x p:Nat→Int} (h:Fine g cap x p) (hc:∀ i,i<g.E→2*cap i≤cap' i∧cap' i≤2*cap i+1):Fine g cap' (Jt g cap' x p) p:=by
 refine Fine.of (fun i hi=>?_) (fun i hi hx=>?_) (fun i hi hx=>?_)
 ·obtain ⟨h1,h2⟩:=h.in' i hi; obtain ⟨h3,h4⟩:=hc i hi;unfold Jt; split <;> omega
 ·unfold Jt at hx
  split at hx
  ·omega
  ·rename_i h5
   rcases Rj (g.co i+p (g.f i) - p (g.t i)) 0 with h6 | h6
   ·exact absurd ⟨hx,h6⟩ h5
   ·exact h6
 ·unfold Jt at hx
  split at hx
  ·rename_i h5; omega
  ·exact h.bwd hi (by omega)
/-- Flows that are finer up to an edge. -/
def HR (g:Gr) (cap' x p:Nat→Int) (k i:Nat):Int:=if i<k then Jt g cap' x p i else 2*x i
theorem XU {g:Gr} {cap' x p:Nat→Int} {v:Nat} (h:B6 g x v=0):B6 g (HR g cap' x p 0) v=0:=by
 have h1:B6 g (HR g cap' x p 0) v=B5 (fun i=>2*((one (g.t i=v) - one (g.f i=v))*x i)) g.E:=Cr fun i _=>by
  unfold HR; rw [if_neg (by omega),Int.mul_left_comm]
 rw [h1,Qa];show 2*B6 g x v=0;omega
theorem XV {g:Gr} {cap' x p:Nat→Int} {k:Nat} (hk:k<g.E) (v:Nat):B6 g (HR g cap' x p (k+1)) v=B6 g (HR g cap' x p k) v+(Jt g cap' x p k - 2*x k)*(one (g.t k=v) - one (g.f k=v)):=by
 obtain ⟨b,c,-⟩:=Jr g k;have h:=OM g (Jt g cap' x p k - 2*x k) (HR g cap' x p k) (a:=2*k) (by omega) v;rw [b,c] at h;rw [← h]
 congr 1
 funext i
 have m1:∀ {k:Nat},i<k→HR g cap' x p k i=Jt g cap' x p i:=fun h=>if_pos h;have m2:∀ {k:Nat},¬ i<k→HR g cap' x p k i=2*x i:=fun h=>if_neg h;unfold Ig;rw [show 2*k / 2=k by omega,if_pos (show 2*k % 2=0 by omega)]
 by_cases e:i=k
 ·subst e;rw [if_pos rfl,m1 (by omega),m2 (by omega)]; omega
 ·rw [if_neg e]
  by_cases e2:i<k
  ·rw [m1 (by omega),m1 e2]
  ·rw [m2 (by omega),m2 e2]
theorem ZZ {g:Gr} {cap' x p:Nat→Int} {i:Nat} (hi:i<g.E):HR g cap' x p g.E i=Jt g cap' x p i:=if_pos hi
theorem Kp {g:Gr} {x y:Nat→Int} (h:∀ i,i<g.E→x i=y i) (v:Nat):B6 g x v=B6 g y v:=Cr fun i hi=>by rw [h i hi]
/-- How much may come together. -/
theorem Ju {g:Gr} {x:Nat→Int} {c:Int} (v:Nat):∀ {k:Nat},(∀ i,i<k→0≤x i∧x i≤c) → -(k*c)≤DQ g x k v∧DQ g x k v≤k*c
 | 0,_=>by show -(((0:Nat):Int)*c)≤0∧(0:Int)≤((0:Nat):Int)*c; omega
 | k+1,h=>by
  obtain ⟨h1,h2⟩:=Ju (g:=g) v (k:=k) fun i hi=>h i (by omega);obtain ⟨h3,h4⟩:=h k (by omega);have e:((k+1:Nat):Int)*c=k*c+c:=by rw [Int.natCast_add,Int.add_mul]; simp
  show _≤DQ g x k v+(one (g.t k=v) - one (g.f k=v))*x k∧DQ g x k v+(one (g.t k=v) - one (g.f k=v))*x k≤_;rw [e];unfold one
  split <;> split <;> omega
theorem Rm {g:Gr} {cap x p:Nat→Int} (h:Fine g cap x p):Fea (((List.range (2*g.E)).filter fun a=>decide (0<C6 cap x a)).map fun a=>(g.u a,g.v a,g.c a)) p:=fun b hb=>by
 rw [List.mem_map] at hb;obtain ⟨a,ha,rfl⟩:=hb;rw [List.mem_filter,List.mem_range,decide_eq_true_eq] at ha;have:=h.fit a ha.1 ha.2;unfold Gr.len at this;dsimp only; omega
theorem XW {g:Gr} {cap x p q:Nat→Int} (h:Fine g cap x p) (hq:Fea (((List.range (2*g.E)).filter fun a=>decide (0<C6 cap x a)).map fun a=>(g.u a,g.v a,g.c a)) q):Fine g cap x q:=by
 refine ⟨h.in',fun a ha hr=>?_⟩;have:=hq (g.u a,g.v a,g.c a) (List.mem_map.2 ⟨a,List.mem_filter.2 ⟨List.mem_range.2 ha,decide_eq_true hr⟩,rfl⟩);unfold Gr.len;dsimp only at this; omega

end Go.Proofs.YtdagmpmdcgedcaaGreat

/- Nets: nodes, edges, is one right: the walks. -/
namespace Go.Proofs.YtdagmpmdcgedcaaGreat
open Go.GV
attribute [local irreducible] AB W Wq Wt

structure Ed where
 f:Int
 t:Int
 cap:Int
 cost:Int
def C4 (e:Ed):List Value:=[.int .i64 e.f,.int .i64 e.t,.int .i64 e.cap,.int .i64 e.cost]
theorem He (e:Ed):∀ v∈C4 e,Be v=true:=fun v hv=>by
 simp only [C4,List.mem_cons,List.not_mem_nil,or_false] at hv
 rcases hv with rfl | rfl | rfl | rfl <;> rfl
/-- Numbers of 64 bits. -/
def I64 (x:Int):Prop := -9223372036854775808≤x∧x≤9223372036854775807
structure Ed.In (e:Ed):Prop where
 f:I64 e.f
 t:I64 e.t
 cap:I64 e.cap
 cost:I64 e.cost
def Lf (N i:Int):Bool:=decide (0≤i) && decide (i<N)
def F1 (N:Int) (e:Ed):Bool:=Lf N e.f && (Lf N e.t && (decide (0≤e.cap) && (decide (e.cap≤4503599627370496) && (decide (-1000≤e.cost) && decide (e.cost≤1000)))))
def G7 (e:Ed):Nat:=e.cap.toNat*e.cost.natAbs
def F2 (es:List Ed):Nat:=(es.map G7).sum
def Cp (N:Int) (es:List Ed):Bool:=(decide (1≤N) && decide (N≤40)) && (decide (es.length≤200) && (es.all (F1 N) && decide (F2 es≤4611686018427387904)))
def DG (N:Int) (a:Option Addr) (n c:Nat):Value := .agg #[.int .i64 N,.slice a n c]

theorem U9 (N:Int) (a:Option Addr) (n c:Nat) (i:Int) (w:World):Ret Tryz.prog 262 #[DG N a n c,.int .i64 i] w fun v w'=>v = .bool (Lf N i)∧Ext [] w w':=by
 obtain ⟨w0,rfl⟩:∃ w0,w0=w:=⟨_,rfl⟩;have H:=Ctx.start w0 [];refine Au (fn:=Tryz.f262) Tryz.func262 U [DG N a n c,.int .i64 i] U (by kernel_rfl) ?_;refine Ad (Bu U [.int .i64 N,.slice a n c] (.agg _) U U H ?_);rintro b2 w - H;refine Ai U U (Ab (Aa (Ad (Af U U (C3 U U U (A7 U U (AV 7 U ?_ ?_)))))))
 ·intro h1;replace h1:=AM h1;refine Af U U (Ah U Ex U (AE U BS U H at0 U (Bj U U U (AG U U (.bool _) U (Ai U U (Ab (Aa (A5 (AA (v:=(.bool _)) U U U ?_)))))))));exact ⟨congrArg Value.bool (by unfold Lf; rw [Bool.eq_iff_iff]; simp_all; try omega),H.ext⟩
 ·intro h2;replace h2:=AN h2;refine Ag U (Ag U (Ag U (Ag U (AJ U U (.bool _) U (Ai U U (Ab (Aa (A5 (AA (v:=(.bool _)) U U U ?_)))))))));exact ⟨congrArg Value.bool (by unfold Lf; rw [Bool.eq_iff_iff]; simp_all; try omega),H.ext⟩
theorem Agh (x:Int) (h1 : -9223372036854775808<x) (h2:x≤9223372036854775807) (w:World):Ret Tryz.prog 243 #[.int .i64 x] w fun v w'=>v = .int .u64 (x.natAbs:Int)∧w=w':=by
 obtain ⟨w0,rfl⟩:∃ w0,w0=w:=⟨_,rfl⟩;refine Au (fn:=Tryz.f243) Tryz.func243 U [.int .i64 x] U (by kernel_rfl) ?_;refine Ad (Ae U U (Ab (Aa (Ad (Af U U (Af U U (Kh U U (by omega) (by omega) ?_)))))));refine KD U U U ?_;rw [show max x (-x)=(x.natAbs:Int) by omega];refine Er U U VD EZ (by omega) (by omega) ?_;refine Ae U U (Ab (Aa (A5 (AA (v:=(.int _ _)) U U U ?_))));exact ⟨rfl,rfl⟩

set_option maxRecDepth 20000 in
theorem Aaa (N:Int) (a:Option Addr) (n c:Nat) (e:Ed) (w:World):Ret Tryz.prog 241 #[DG N a n c,.agg (C4 e).toArray] w fun v w'=>v = .bool (F1 N e)∧Ext [] w w':=by
 obtain ⟨w0,rfl⟩:∃ w0,w0=w:=⟨_,rfl⟩;have H:=Ctx.start w0 [];refine Au (fn:=Tryz.f241) Tryz.func241 U [DG N a n c,.agg (C4 e).toArray] U (by kernel_rfl) ?_;refine Ad (Bu U [.int .i64 N,.slice a n c] (.agg _) U U H ?_);rintro b2 w - H;refine Bu U (C4 e) (.agg _) U U H ?_;rintro b3 w - H;refine Ai U U (Ab (Aa (Aw (Az (Aw (Ad (Ce U CV C7 U H at1 U (Ah U FI U (AE U BS U H at0 U (Al U X5 (U9 N a n c e.f _) U ?_))))))))));rintro v w ⟨rfl,hx9⟩;replace H:=H.call hx9;refine BG U U (Ai U U (Ab (Aa (Db 5 U ?_ ?_))))
 ·intro h1;replace h1:=BD h1;refine Av (Aa (D3 U (Ad (Ai U U (Ab (Aa (A5 (A9 (Ao (AA (v:=(.bool _)) U U U ?_))))))))));exact ⟨congrArg Value.bool (by unfold F1; simp_all; try omega),H.ext⟩
 ·intro h2;replace h2:=BE h2;refine Ad (Ce U CV C7 U H at1 U (Ah U FJ U (AE U BS U H at0 U (Al U X5 (U9 N a n c e.t _) U ?_))));rintro v w ⟨rfl,hx14⟩;replace H:=H.call hx14;refine BG U U (Ai U U (Ab (Aa (Db 5 U ?_ ?_))))
  ·intro h3;replace h3:=BD h3;refine Av (Aa (D3 U (Ad (Ai U U (Ab (Aa (A5 (A9 (Ao (AA (v:=(.bool _)) U U U ?_))))))))));exact ⟨congrArg Value.bool (by unfold F1; simp_all; try omega),H.ext⟩
  ·intro h4;replace h4:=BE h4;refine Ad (Ah U EG U (AE U Bw U H at0 U (Bj U U U (Ai U U (Ab (Aa (Db 5 U ?_ ?_)))))))
   ·intro h5;replace h5:=AM h5;refine Av (Aa (D3 U (Ad (Ai U U (Ab (Aa (A5 (A9 (Ao (AA (v:=(.bool _)) U U U ?_))))))))));exact ⟨congrArg Value.bool (by unfold F1; simp_all; try omega),H.ext⟩
   ·intro h6;replace h6:=AN h6;refine Ad (Ah U EG U (AE U Bw U H at0 U (Dn U U U (Ai U U (Ab (Aa (Db 5 U ?_ ?_)))))))
    ·intro h7;replace h7:=AM h7;refine Av (Aa (D3 U (Ad (Ai U U (Ab (Aa (A5 (A9 (Ao (AA (v:=(.bool _)) U U U ?_))))))))));exact ⟨congrArg Value.bool (by unfold F1; simp_all; try omega),H.ext⟩
    ·intro h8;replace h8:=AN h8;refine Ad (Ah U GG U (AE U Bw U H at0 U (Bj U U U (Ai U U (Ab (Aa (Db 5 U ?_ ?_)))))))
     ·intro h9;replace h9:=AM h9;refine Av (Aa (D3 U (Ad (Ai U U (Ab (Aa (A5 (A9 (Ao (AA (v:=(.bool _)) U U U ?_))))))))));exact ⟨congrArg Value.bool (by unfold F1; simp_all; try omega),H.ext⟩
     ·intro h10;replace h10:=AN h10;refine A0 (Ah U GG U (AE U Bw U H at0 U (Dn U U U (Ai U U (Ab (Aa (Db 5 U ?_ ?_)))))))
      ·intro h11;replace h11:=AM h11;refine Ad (Ai U U (Ab (Aa (A5 (A9 (Ao (AA (v:=(.bool _)) U U U ?_)))))));exact ⟨congrArg Value.bool (by unfold F1; simp_all; try omega),H.ext⟩
      ·intro h12;replace h12:=AN h12;refine Av (A6 (Aa (Ad (Ai U U (Ab (Aa (A5 (AA (v:=(.bool _)) U U U ?_))))))));exact ⟨congrArg Value.bool (by unfold F1; simp_all; try omega),H.ext⟩

theorem XX (x y:Nat) (hx:x≤4503599627370496) (hy:y≤1000) (w:World):Ret Tryz.prog 242 #[.int .u64 (x:Int),.int .u64 (y:Int)] w fun v w'=>v = .tuple #[.int .u64 0,.int .u64 ((x*y:Nat):Int)]∧w=w':=by
 obtain ⟨w0,rfl⟩:∃ w0,w0=w:=⟨_,rfl⟩;have hm:∀ z:Nat,z &&& 4294967295=z % 4294967296:=fun z=>Nat.and_two_pow_sub_one_eq_mod z 32;obtain ⟨x0,hx0⟩:∃ x0,x0=x % 4294967296:=⟨_,rfl⟩;obtain ⟨x1,hx1⟩:∃ x1,x1=x / 4294967296:=⟨_,rfl⟩;have hp0:x0*y≤4294967296*1000:=Nat.mul_le_mul (by omega) hy;have hp1:x1*y≤1048576*1000:=Nat.mul_le_mul (by omega) hy;have hxy:x*y≤4503599627370496*1000:=Nat.mul_le_mul hx hy;refine Au (fn:=Tryz.f242) Tryz.func242 U [.int .u64 (x:Int),.int .u64 (y:Int)] U (by kernel_rfl) ?_;refine Ad (Ae U U (Ae U U (Ab (Aa (Ad (Af U U (Iy (b:=4294967295) U U U (by omega) (by omega) ?_)))))));rw [hm,← hx0];refine Ae U U (Ab (Aa (Ad (Af U U (EL (n:=32) U U U (by omega) ?_)))));rw [show x / 2 ^ 32=x1 from hx1.symm];refine Ae U U (Ab (Aa (Ad (Af U U (Iy (b:=4294967295) U U U (by omega) (by omega) ?_)))));rw [hm,show y % 4294967296=y by omega]
 refine Ae U U (Ab (Aa (Ad (Af U U (EL (n:=32) U U U (by omega) ?_)))));rw [show y / 2 ^ 32=0 by omega];refine Ae U U (Ab (Aa (Ad (Af U U (Af U U (GS U U U (Int.mul_nonneg (by omega) (by omega)) (by rw [← Int.natCast_mul]; omega) ?_))))));rw [← Int.natCast_mul];refine Ae U U (Ab (Aa (Ad (Af U U (Af U U (GS U U U (Int.mul_nonneg (by omega) (by omega)) (by rw [← Int.natCast_mul]; omega) ?_))))));rw [← Int.natCast_mul];refine Af U U (EL (n:=32) U U U (by omega) ?_);refine EK U U U (by omega) (by omega) ?_;rw [← Int.natCast_add];refine Ae U U (Ab (Aa (Ad (Af U U (Iy (b:=4294967295) U U U (by omega) (by omega) ?_)))));rw [hm];refine Ae U U (Ab (Aa (Ad (Af U U (EL (n:=32) U U U (by omega) ?_)))));rw [show (x1*y+x0*y / 2 ^ 32) / 2 ^ 32=0 by omega]
 refine Ae U U (Ab (Aa (Ad (Af U U (Af U U (Af U U (GS U U U (by show (0:Int)≤(x0:Int)*((0:Nat):Int); omega) (by show (x0:Int)*((0:Nat):Int)≤_; omega) ?_)))))));rw [show (x0:Int)*((0:Nat):Int)=0 by omega];refine EK U U U (by omega) (by omega) ?_;rw [show ((((x1*y+x0*y / 2 ^ 32) % 4294967296:Nat):Int)+0)=(((x1*y+x0*y / 2 ^ 32) % 4294967296:Nat):Int) by omega];refine Ae U U (Ab (Aa (Ad (Af U U (Af U U (GS U U U (by show (0:Int)≤(x1:Int)*((0:Nat):Int); omega) (by show (x1:Int)*((0:Nat):Int)≤_; omega) ?_))))));rw [show (x1:Int)*((0:Nat):Int)=0 by omega];refine Af U U (EK U U U (by omega) (by omega) ?_);refine Af U U (EL (n:=32) U U U (by omega) ?_);rw [show (x1*y+x0*y / 2 ^ 32) % 4294967296 / 2 ^ 32=0 by omega];refine EK U U U (by omega) (by omega) ?_;refine Ae U U (Ab (Aa (Ad (Af U U (Af U U (GS U U U (Int.mul_nonneg (by omega) (by omega)) (by rw [← Int.natCast_mul]; omega) ?_))))))
 rw [← Int.natCast_mul];refine Ae U U (Ab (Aa (A5 (BR (v1:=(.int _ _)) (v2:=(.int _ _)) U U U U ?_))));exact ⟨rfl,rfl⟩

theorem TA {es:List Ed} {i:Nat} {e:Ed} (h:es[i]? = some e):F2 (es.take (i+1))=F2 (es.take i)+G7 e:=by
 unfold F2;rw [ES h,List.map_append,List.sum_append]; simp
theorem TB (es:List Ed) (i:Nat):F2 (es.take i)≤F2 es:=by
 unfold F2;have h:(es.map G7).sum=((es.take i).map G7).sum+((es.drop i).map G7).sum:=by rw [← List.sum_append,← List.map_append,List.take_append_drop]
 omega
theorem Ez {N:Int} {e:Ed} (h:F1 N e=true):0≤e.f∧e.f<N∧0≤e.t∧e.t<N∧0≤e.cap∧e.cap≤4503599627370496 ∧ -1000≤e.cost∧e.cost≤1000:=by
 unfold F1 Lf at h;simp only [Bool.and_eq_true,decide_eq_true_eq] at h;omega
theorem El {α:Type} {p:α→Bool} {l:List α} {i:Nat} {x:α} (h:l[i]? = some x) (hp:p x=false):l.all p=false:=by
 rw [List.all_eq_false];exact ⟨x,List.mem_of_getElem? h,by rw [hp]; simp⟩
theorem Fi {α:Type} {p:α→Bool} {l:List α} (h:∀ k x,k<l.length→l[k]? = some x→p x=true):l.all p=true:=by
 rw [List.all_eq_true];intro x hx;obtain ⟨k,hk⟩:=List.getElem?_of_mem hx;exact h k x (List.getElem?_eq_some_iff.1 hk).1 hk

set_option maxRecDepth 20000 in
set_option maxHeartbeats 2000000 in
theorem Lg (N:Int) (a:Option Addr) (n c:Nat) (es:List Ed) (w:World) (R:Rd w a 4 C4 es) (hn:es.length=n) (hN:I64 N):Ret Tryz.prog 209 #[DG N a n c] w fun v w'=>v = .bool (Cp N es)∧Ext [] w w':=by
 subst hn;obtain ⟨w0,rfl⟩:∃ w0,w0=w:=⟨_,rfl⟩;have H:=Ctx.start w0 [];refine Au (fn:=Tryz.f209) Tryz.func209 U [DG N a es.length c] U (by kernel_rfl) ?_;refine Ad (Bu U [.int .i64 N,.slice a es.length c] (.agg _) U U H ?_);rintro b1 w - H;refine Ai U U (Ab (Aa (Aw (Ad (Cw (α:=Unit) 4194048 (fun _=>[(21,.bool (!((decide (1≤N) && decide (N≤40)) && decide (es.length≤200))))]) (fun _ w'=>Ctx w0 [] w' [(b1,Bl 51 [.int .i64 N,.slice a es.length c])]) U ?_ ?_)))))
 ·refine Ah U Ex U (AE U BS U H at0 U (Bj U U U (A7 U U (AV 11 U ?_ ?_))))
  ·intro h1;replace h1:=AM h1;refine Ag U (Ag U (Ag U (AG U U (.bool _) U (A7 U U (Ag U (Ag U (Ag U (Ag U (AG U U (.bool _) U ?_)))))))));refine Ab ?_;exact ⟨rfl,(),rfl,⟨congrArg Value.bool (by rw [Bool.eq_iff_iff]; simp_all; try omega),trivial⟩,H⟩
  ·intro h2;replace h2:=AN h2;refine Ah U Ex U (AE U BS U H at0 U (Dn U U U (AJ U U (.bool _) U (A7 U U (AV 16 U ?_ ?_)))))
   ·intro h3;replace h3:=AM h3;refine Ag U (Ag U (Ag U (Ag U (AG U U (.bool _) U (Ab ?_)))));exact ⟨rfl,(),rfl,⟨congrArg Value.bool (by rw [Bool.eq_iff_iff]; simp_all; try omega),trivial⟩,H⟩
   ·intro h4;replace h4:=AN h4;refine Ah U CN U (AE U Ei U H at0 U (Bf U CW U (Dn U U U (AJ U U (.bool _) U (Ab ?_)))));exact ⟨rfl,(),rfl,⟨congrArg Value.bool (by rw [Bool.eq_iff_iff]; simp_all; try omega),trivial⟩,H⟩
 rintro - j21 w H;refine Aq _ U ?_ ?_
 ·intro h1;replace h1:=BD h1;refine Ad (Ai U U (Ab (Aa (A5 (Ao (AA (v:=(.bool _)) U U U ?_))))));exact ⟨congrArg Value.bool (by unfold Cp; rw [← Bool.and_assoc,show ((decide (1≤N) && decide (N≤40)) && decide (es.length≤200))=false by simpa using h1]; rfl),H.ext⟩
 ·intro h1;replace h1:=BE h1;have h1':((decide (1≤N) && decide (N≤40)) && decide (es.length≤200))=true:=by simpa using h1
  have hrN:Cp N es=(es.all (F1 N) && decide (F2 es≤4611686018427387904)):=by unfold Cp; rw [← Bool.and_assoc,h1']; rfl
  have hn2:es.length≤200:=by simp only [Bool.and_eq_true,decide_eq_true_eq] at h1'; omega
  refine Av (Aa (Ad (Ae U U (Ab (Aa (Aw (Ad (Ah U CN U (AE U Ei U H at0 U (Bf U CW U (Af U U ?_)))))))))));refine Ab (Aa (Az (Bv 18014398475927788 (α:=Nat) (fun i=>[(25,.int .i64 (i:Int)),(3,.int .u64 ((4611686018427387904 - F2 (es.take i):Nat):Int))]) (fun i w'=>i≤es.length∧Ctx w0 [] w' [(b1,Bl 51 [.int .i64 N,.slice a es.length c])]∧F2 (es.take i)≤4611686018427387904∧∀ (k:Nat) (e:Ed),k<i→es[k]? = some e→F1 N e=true) (fun i=>es.length - i) 0 U ?_ ?_ ?_)))
  ·exact ⟨rfl,rfl,trivial⟩
  ·exact ⟨Nat.zero_le _,H,Nat.zero_le _,fun k e h=>absurd h (Nat.not_lt_zero _)⟩
  ·rintro i j w ⟨hi,H,hpr,hb⟩;refine Ad (Bj U U U (Ab (Aa (Aw (Aq _ U ?_ ?_)))))
   ·intro h2;replace h2:=AM h2;obtain ⟨e,he⟩:=AD (l:=es) (i:=i) (by omega);have hps:=TA he;have hpt:=TB es (i+1);refine Av (Aa (Aw (Az (Ad (Bo R U CW CX U U (by omega) (by omega) (by rfl) ?_)))));refine Cn _ U Ib CX U U ((R.ext0 H.ext).row he U) ?_;refine AZ U GZ H ?_;rintro b5 w - H;refine Bn U CX U U U (by exact He _) H at0 U ?_;rintro w H;refine Ab (Aa (Aw (Ad (Ce U CV C7 U H at1 U (Ce U Ib CX U H at0 U (Al U Ae5 (Aaa N a es.length c e _) U ?_))))));rintro v w ⟨rfl,hx31⟩;replace H:=H.call hx31;refine BG U U (Ab (Aa (Aq _ U ?_ ?_)))
    ·intro h3;replace h3:=BD h3;refine Ad (Ai U U (Ab (Aa (A5 (Ao (A9 (Ao (Ao (A9 (Ao (AA (v:=(.bool _)) U U U ?_)))))))))));exact ⟨congrArg Value.bool (by rw [hrN,El he (by simpa using h3)]; rfl),H.ext⟩
    ·intro h3;replace h3:=BE h3;have h3':F1 N e=true:=by simpa using h3
     obtain ⟨-,-,-,-,q1,q2,q3,q4⟩:=Ez h3';obtain ⟨cp,hcp⟩:∃ cp:Nat,e.cap=(cp:Int):=⟨e.cap.toNat,by omega⟩;have hpe:G7 e=cp*e.cost.natAbs:=by unfold G7; rw [hcp,Int.toNat_natCast]
     have hpm:cp*e.cost.natAbs≤4503599627370496*1000:=Nat.mul_le_mul (by omega) (by omega);obtain ⟨w5,rfl⟩:∃ z,z=w:=⟨_,rfl⟩;have hb5:=H.get at0;have hk5:∀ {z:World},Ext [] w5 z→z.heap[b5]? = some (Bl 59 (C4 e)):=fun {z} h=>by rw [h.block b5 (Bb hb5) (by simp)]; exact hb5
     have hD:=Ext.drew [] w5;refine Av (Aa (Cv [([0,1,2,3,4],5),([],6),([7,8,9,10],11)] (fun z=>Ext [] w5 z) [] Bq (by kernel_rfl) (hD) ?_));refine AH U U ?_;refine An U EG U (B0 U Bw U (fun _ hx=>(by rw [Aj (hk5 hx)]; rfl)) ?_);rw [hcp];refine SW U U VD EZ (by omega) (by omega) ?_;refine An U GG U (B0 U Bw U (fun _ hx=>(by rw [Aj (hk5 hx)]; rfl)) ?_);refine AS ?_;replace H:=H.drew;refine Al U Ae7 (Agh e.cost (by omega) (by omega) _) U ?_;rintro v w ⟨rfl,rfl⟩;refine Ab (Cl (hD) (AH U U ?_));refine AS (Al U Ae6 (XX cp e.cost.natAbs (by omega) (by omega) _) U ?_);rintro v w ⟨rfl,rfl⟩;refine Ab (Cl (hD) (AH U U ?_));refine D5 U U (Bs U U U (Bs U U U (JD U U (AS (Ae U U (Ab (Cl (hD) (BJ (Aw (Ad ?_))))))))));refine Af U U (CI U U U (A7 U U (Af U U (Af U U (Dn U U U (AJ U U (.bool _) U (Ab (Aa (Aq _ U ?_ ?_)))))))))
     ·intro h4;replace h4:=AM h4;refine Ad (Ai U U (Ab (Aa (A5 (Ao (A9 (Ao (Ao (A9 (Ao (AA (v:=(.bool _)) U U U ?_)))))))))));exact ⟨congrArg Value.bool (by rw [hrN,decide_eq_false (show ¬ F2 es≤4611686018427387904 by omega),Bool.and_false]),H.ext⟩
     ·intro h4;replace h4:=AN h4;refine Av (Aa (A0 (Af U U (Af U U (Nh U U U (by omega) (by omega) ?_)))));refine Ae U U (Ab (A6 (Aa (A0 (Ay U U U (by omega) (by omega) ?_)))));refine Af U U (Ab (Aa ?_));refine ⟨i+1,rfl,⟨rfl,congrArg (Value.int .u64) (by rw [hps,hpe]; omega),trivial⟩,⟨by omega,H.tail,by rw [hps,hpe]; omega,fun k y hk hy=>?_⟩,by omega⟩
      rcases Nat.lt_or_ge k i with h7 | h7
      ·exact hb k y h7 hy
      ·obtain rfl:k=i:=by omega
       rw [he] at hy;cases hy;exact h3'
   ·intro h2;replace h2:=AN h2;refine Bt (Am (Am (AK (Aa (Ad (Ai U U (Ab (Aa (A5 (AA (v:=(.bool _)) U U U ?_))))))))));rw [List.take_of_length_le (by omega)] at hpr;exact ⟨congrArg Value.bool (by rw [hrN,Fi fun k x hk hx=>hb k x (by omega) hx,decide_eq_true hpr]; rfl),H.ext⟩

end Go.Proofs.YtdagmpmdcgedcaaGreat

/- Flows within a net, arcs: the walks. -/
namespace Go.Proofs.YtdagmpmdcgedcaaGreat
open Go.GV
attribute [local irreducible] AB W Wq Wt

def Dq (x:Int):Value := .int .i64 x
abbrev I1 (x:Int):List Value:=[.int .i64 x]
def inB (e:Ed) (x:Int):Bool:=decide (0≤x) && decide (x≤e.cap)
/-- Is a flow within its net? -/
def Cb (N:Int) (es:List Ed) (fl:List Int):Bool:=(decide (fl.length=es.length) && Cp N es) && (List.zipWith inB es fl).all id
theorem NA {es:List Ed} {fl:List Int} {i:Nat} {e:Ed} {x:Int} (he:es[i]? = some e) (hx:fl[i]? = some x):(List.zipWith inB es fl)[i]? = some (inB e x):=by
 rw [List.getElem?_zipWith,he,hx]

set_option maxRecDepth 20000 in
set_option maxHeartbeats 2000000 in
theorem JK (N:Int) (a b:Option Addr) (n c m d:Nat) (es:List Ed) (fl:List Int) (w:World) (R:Rd w a 4 C4 es) (hn:es.length=n) (hN:I64 N) (Rf:Rd w b 1 I1 fl) (hm:fl.length=m) (hm2:m≤9223372036854775000) :
  Ret Tryz.prog 251 #[DG N a n c,.slice b m d] w fun v w'=>v = .bool (Cb N es fl)∧Ext [] w w':=by
 subst hn hm;obtain ⟨w0,rfl⟩:∃ w0,w0=w:=⟨_,rfl⟩;have H:=Ctx.start w0 [];refine Au (fn:=Tryz.f251) Tryz.func251 U [DG N a es.length c,.slice b fl.length d] U (by kernel_rfl) ?_;refine Ad (Bu U [.int .i64 N,.slice a es.length c] (.agg _) U U H ?_);rintro b2 w - H;refine Ai U U (Ab (Aa (Aw (Ad (Cw (α:=Unit) 262016 (fun _=>[(17,.bool (!(decide (fl.length=es.length) && Cp N es)))]) (fun _ w'=>Ctx w0 [] w' [(b2,Bl 51 [.int .i64 N,.slice a es.length c])]) U ?_ ?_)))))
 ·refine A4 U U (Bf U AR U (Ah U CN U (AE U Ei U H at0 U (Bf U CW U (CI U U U (A7 U U (AV 13 U ?_ ?_)))))))
  ·intro h1;replace h1:=CE h1;refine Ag U (Ag U (Ag U (AG U U (.bool _) U (Ab ?_))));exact ⟨rfl,(),rfl,⟨congrArg Value.bool (by rw [Bool.eq_iff_iff]; simp_all; try omega),trivial⟩,H⟩
  ·intro h2;replace h2:=CF h2;refine Ce U CV C7 U H at0 U (Al U PN (Lg N a es.length c es _ (R.ext0 H.ext) U hN) U ?_);rintro v w ⟨rfl,hx15⟩;replace H:=H.call hx15;refine BG U U (AJ U U (.bool _) U (Ab ?_));exact ⟨rfl,(),rfl,⟨congrArg Value.bool (by rw [Bool.eq_iff_iff]; simp_all; try omega),trivial⟩,H⟩
 rintro - j17 w H;refine Aq _ U ?_ ?_
 ·intro h1;replace h1:=BD h1;refine Ad (Ai U U (Ab (Aa (A5 (Ao (AA (v:=(.bool _)) U U U ?_))))));exact ⟨congrArg Value.bool (by unfold Cb; rw [show (decide (fl.length=es.length) && Cp N es)=false by simpa using h1]; rfl),H.ext⟩
 ·intro h1;replace h1:=BE h1;have h1':(decide (fl.length=es.length) && Cp N es)=true:=by simpa using h1
  have hw:Cb N es fl=(List.zipWith inB es fl).all id:=by unfold Cb; rw [h1']; rfl
  have hle:fl.length=es.length:=by simp only [Bool.and_eq_true,decide_eq_true_eq] at h1'; exact h1'.1
  refine Av (Aa (Aw (Ad (A4 U U (Bf U AR U (Af U U (Ab (Aa (Az (Bv 274876858480 (α:=Nat) (fun i=>[(20,.int .i64 (i:Int))]) (fun i w'=>i≤fl.length∧Ctx w0 [] w' [(b2,Bl 51 [.int .i64 N,.slice a es.length c])]∧∀ (k:Nat) (e:Ed) (x:Int),k<i→es[k]? = some e→fl[k]? = some x→inB e x=true) (fun i=>fl.length - i) 0 U ?_ ?_ ?_))))))))))
  ·exact ⟨rfl,trivial⟩
  ·exact ⟨Nat.zero_le _,H,fun k e x h=>absurd h (Nat.not_lt_zero _)⟩
  ·rintro i j w ⟨hi,H,hb⟩;refine Ad (Bj U U U (Ab (Aa (Aw (Aq _ U ?_ ?_)))))
   ·intro h2;replace h2:=AM h2;obtain ⟨e,he⟩:=AD (l:=es) (i:=i) (by omega);obtain ⟨x,hx⟩:=AD (l:=fl) (i:=i) (by omega);refine Av (Aa (Aw (Az (Ad (Af U U (Bo Rf U AR Bx U U (by omega) (by omega) (by rfl) ?_))))));refine Bd U Bw U (((Rf.ext0 H.ext).fld hx U (j:=0) U)) ?_;refine Ae U U (Ae U U (Ab (Aa (Ad (Cw (α:=Unit) 137405399040 (fun _=>[(36,.bool (!inB e x))]) (fun _ w'=>Ctx w0 [] w' [(b2,Bl 51 [.int .i64 N,.slice a es.length c])]) U ?_ ?_)))))
    ·refine Af U U (Bj U U U (A7 U U (AV 27 U ?_ ?_)))
     ·intro h3;replace h3:=AM h3;refine Ag U (Ag U (Ag U (Ag U (Ag U (Ag U (Ag U (Ag U (AG U U (.bool _) U (Ab ?_)))))))));exact ⟨rfl,(),rfl,⟨congrArg Value.bool (by unfold inB; rw [Bool.eq_iff_iff]; simp_all; try omega),trivial⟩,H⟩
     ·intro h4;replace h4:=AN h4;refine Af U U (Ah U CN U (AE U Ei U H at0 U (Af U U (Bo R U CW CX U U (by omega) (by omega) (by rfl) ?_))));refine Ah U EG U (Bd U Bw U (((R.ext0 H.ext).fld he U (j:=2) U)) ?_);refine Dn U U U (AJ U U (.bool _) U (Ab ?_));exact ⟨rfl,(),rfl,⟨congrArg Value.bool (by unfold inB; rw [Bool.eq_iff_iff]; simp_all; try omega),trivial⟩,H⟩
    rintro - j36 w H;refine Aq _ U ?_ ?_
    ·intro h3;replace h3:=BD h3;refine Ad (Ai U U (Ab (Aa (A5 (A9 (Ao (Ao (A9 (Ao (AA (v:=(.bool _)) U U U ?_))))))))));exact ⟨congrArg Value.bool (by rw [hw,El (NA he hx) (show id (inB e x)=false by simpa using h3)]),H.ext⟩
    ·intro h3;replace h3:=BE h3;refine Av (A6 (Aa (A0 (Ay U U U (by omega) (by omega) ?_))));refine Af U U (Ab (Aa ?_));refine ⟨i+1,rfl,⟨rfl,trivial⟩,⟨by omega,H,fun k f y hk hf hy=>?_⟩,by omega⟩
     rcases Nat.lt_or_ge k i with h7 | h7
     ·exact hb k f y h7 hf hy
     ·obtain rfl:k=i:=by omega
      rw [he] at hf; rw [hx] at hy;cases hf; cases hy
      simpa using h3
   ·intro h2;replace h2:=AN h2;refine Bt (Am (Am (AK (Aa (Ad (Ai U U (Ab (Aa (A5 (AA (v:=(.bool _)) U U U ?_))))))))));refine ⟨congrArg Value.bool ?_,H.ext⟩;rw [hw,Fi fun k x hk hx=>?_];rw [List.length_zipWith] at hk;obtain ⟨e,he⟩:=AD (l:=es) (i:=k) (by omega);obtain ⟨y,hy⟩:=AD (l:=fl) (i:=k) (by omega);rw [NA he hy] at hx;cases hx;exact hb k e y (by omega) he hy
theorem Ck {N:Int} {es:List Ed} {fl:List Int} (h:Cb N es fl=true):fl.length=es.length∧Cp N es=true∧∀ (i:Nat) (e:Ed) (x:Int),es[i]? = some e→fl[i]? = some x→0≤x∧x≤e.cap:=by
 unfold Cb at h;simp only [Bool.and_eq_true,decide_eq_true_eq,List.all_eq_true] at h;refine ⟨h.1.1,h.1.2,fun i e x he hx=>?_⟩;have:=h.2 _ (List.mem_of_getElem? (NA he hx));unfold inB at this
 simpa using this
theorem C8 {N:Int} {es:List Ed} (h:Cp N es=true):1≤N∧N≤40∧es.length≤200∧(∀ e∈es,F1 N e=true)∧F2 es≤4611686018427387904:=by
 unfold Cp at h;simp only [Bool.and_eq_true,decide_eq_true_eq,List.all_eq_true] at h;exact ⟨h.1.1,h.1.2,h.2.1,h.2.2.1,h.2.2.2⟩

/-! ### Arcs -/
def Kq (es:List Ed) (a:Int):Bool:=decide (0≤a) && decide (a<2*es.length)
theorem XY (N:Int) (a:Option Addr) (n c:Nat) (es:List Ed) (hn:es.length=n) (hb:n≤1000000) (k:Int) (w:World):Ret Tryz.prog 272 #[DG N a n c,.int .i64 k] w fun v w'=>v = .bool (Kq es k)∧Ext [] w w':=by
 subst hn;obtain ⟨w0,rfl⟩:∃ w0,w0=w:=⟨_,rfl⟩;have H:=Ctx.start w0 [];refine Au (fn:=Tryz.f272) Tryz.func272 U [DG N a es.length c,.int .i64 k] U (by kernel_rfl) ?_;refine Ad (Bu U [.int .i64 N,.slice a es.length c] (.agg _) U U H ?_);rintro b2 w - H;refine Ai U U (Ab (Aa (Ad (Af U U (C3 U U U (A7 U U (AV 7 U ?_ ?_)))))))
 ·intro h1;replace h1:=AM h1;refine Af U U (Ah U CN U (AE U Ei U H at0 U (Bf U CW U (D8 U U U (by omega) (by omega) ?_))));refine Bj U U U (AG U U (.bool _) U (Ai U U (Ab (Aa (A5 (AA (v:=(.bool _)) U U U ?_))))));exact ⟨congrArg Value.bool (by unfold Kq; rw [Bool.eq_iff_iff]; simp_all; try omega),H.ext⟩
 ·intro h2;replace h2:=AN h2;refine Ag U (Ag U (Ag U (Ag U (Ag U (Ag U (AJ U U (.bool _) U (Ai U U (Ab (Aa (A5 (AA (v:=(.bool _)) U U U ?_)))))))))));exact ⟨congrArg Value.bool (by unfold Kq; rw [Bool.eq_iff_iff]; simp_all; try omega),H.ext⟩
theorem UA (k:Nat) (hk:k<9223372036854775808) (w:World):Ret Tryz.prog 283 #[.int .i64 (k:Int)] w fun v w'=>v = .bool (decide (k % 2=1))∧w=w':=by
 obtain ⟨w0,rfl⟩:∃ w0,w0=w:=⟨_,rfl⟩;refine Au (fn:=Tryz.f283) Tryz.func283 U [.int .i64 (k:Int)] U (by kernel_rfl) ?_;refine Ad (Ai U U (Ab (Aa (Ad (Af U U (Nn (b:=1) U U U (by omega) (by omega) ?_))))));rw [Nat.and_one_is_mod];refine Cz U U U (Ai U U (Ab (Aa (A5 (AA (v:=(.bool _)) U U U ?_)))));exact ⟨congrArg Value.bool (by rw [Bool.eq_iff_iff]; simp; omega),rfl⟩
/-- An arc of an edge: from where, to where, at which cost. -/
def Ht (e:Ed) (k:Nat):Int × Int × Int:=if k % 2=1 then (e.t,e.f,-e.cost) else (e.f,e.t,e.cost)
theorem Aab (N:Int) (a:Option Addr) (n c:Nat) (es:List Ed) (w:World) (R:Rd w a 4 C4 es) (hn:es.length=n) (hb:n≤1000000) (k:Nat) {e:Ed} (he:es[k / 2]? = some e) (hc : -9223372036854775808<e.cost∧e.cost≤9223372036854775807):Ret Tryz.prog 276 #[DG N a n c,.int .i64 (k:Int)] w fun v w'=>v = .tuple #[.int .i64 (Ht e k).1,.int .i64 (Ht e k).2.1,.int .i64 (Ht e k).2.2]∧Ext [] w w':=by
 subst hn;obtain ⟨w0,rfl⟩:∃ w0,w0=w:=⟨_,rfl⟩;have H:=Ctx.start w0 [];have hk:=Cu he;refine Au (fn:=Tryz.f276) Tryz.func276 U [DG N a es.length c,.int .i64 (k:Int)] U (by kernel_rfl) ?_;refine Ad (Bu U [.int .i64 N,.slice a es.length c] (.agg _) U U H ?_);rintro b2 w - H;refine Ae U U (Ae U U (Ae U U (Ab (Aa (Ad (Ah U CN U (AE U Ei U H at0 U (Af U U (Iz (n:=1) U U U (by omega) ?_)))))))));rw [show k / 2 ^ 1=k / 2 from rfl];refine Bo R U CW CX U U (by omega) (by omega) (by rfl) ?_;refine Cn _ U Ib CX U U ((R.ext0 H.ext).row he U) ?_;refine AZ U GZ H ?_;rintro b7 w - H;refine Bn U CX U U U (by exact He _) H at0 U ?_;rintro w H;refine Ab (Aa (Aw (Ad (Af U U (Al U XB (UA k (by omega) _) U ?_)))));rintro v w ⟨rfl,rfl⟩;refine Ab (Aa (Aq _ U ?_ ?_))
 ·intro h1;refine Dx (fun x=>x=_) Bq (by kernel_rfl) U ?_;refine A2 U FJ U (BU U BS U (by rintro _ rfl; exact H.drew) at0 U ?_);refine A2 U FI U (BU U BS U (by rintro _ rfl; exact H.drew) at0 U ?_);refine A2 U GG U (BU U Bw U (by rintro _ rfl; exact H.drew) at0 U ?_);refine Vv U U (by omega) (by omega) ?_;refine Dm U U (Dm U U (Dm U U (BK ?_)));rintro _ rfl;replace H:=H.drew;refine A5 (Ao (Lz (v1:=(.int _ _)) (v2:=(.int _ _)) (v3:=(.int _ _)) U U U U U ?_));exact ⟨by unfold Ht; rw [if_pos (of_decide_eq_true h1)],H.ext⟩
 ·intro h1;refine Av (Aa (Dx (fun x=>x=_) Bq (by kernel_rfl) U ?_));refine A2 U FI U (BU U BS U (by rintro _ rfl; exact H.drew) at0 U ?_);refine A2 U FJ U (BU U BS U (by rintro _ rfl; exact H.drew) at0 U ?_);refine A2 U GG U (BU U Bw U (by rintro _ rfl; exact H.drew) at0 U ?_);refine Dm U U (Dm U U (Dm U U (BK ?_)));rintro _ rfl;replace H:=H.drew;refine A5 (Lz (v1:=(.int _ _)) (v2:=(.int _ _)) (v3:=(.int _ _)) U U U U U ?_);exact ⟨by unfold Ht; rw [if_neg (of_decide_eq_false h1)],H.ext⟩
/-- What is told of an arc. -/
def F3 (N:Int) (es:List Ed) (k:Int):Int × Int × Int:=if (Kq es k && Cp N es)=true then Ht (es.getD (k.toNat / 2) ⟨0,0,0,0⟩) k.toNat else (0,0,0)
set_option maxRecDepth 20000 in
theorem Qe (N:Int) (a:Option Addr) (n c:Nat) (es:List Ed) (w:World) (R:Rd w a 4 C4 es) (hn:es.length=n) (hb:n≤1000000) (hN:I64 N) (k:Int):Ret Tryz.prog 253 #[DG N a n c,.int .i64 k] w fun v w'=>v = .tuple #[.int .i64 (F3 N es k).1,.int .i64 (F3 N es k).2.1,.int .i64 (F3 N es k).2.2]∧Ext [] w w':=by
 subst hn;obtain ⟨w0,rfl⟩:∃ w0,w0=w:=⟨_,rfl⟩;have H:=Ctx.start w0 [];refine Au (fn:=Tryz.f253) Tryz.func253 U [DG N a es.length c,.int .i64 k] U (by kernel_rfl) ?_;refine Ad (Bu U [.int .i64 N,.slice a es.length c] (.agg _) U U H ?_);rintro b2 w - H;refine Ae U U (Ae U U (Ae U U (Ab (Aa (Aw (Ad (Cw (α:=Unit) 65408 (fun _=>[(15,.bool (!(Kq es k && Cp N es)))]) (fun _ w'=>Ctx w0 [] w' [(b2,Bl 51 [.int .i64 N,.slice a es.length c])]) U ?_ ?_)))))))
 ·refine Ce U CV C7 U H at0 U (Af U U (Al U X8 (XY N a es.length c es U hb k _) U ?_));rintro v w ⟨rfl,hx9⟩;replace H:=H.call hx9;refine BG U U (A7 U U (AV 11 U ?_ ?_))
  ·intro h1;replace h1:=BD h1;refine Ag U (Ag U (Ag U (AG U U (.bool _) U (Ab ?_))));exact ⟨rfl,(),rfl,⟨congrArg Value.bool (by rw [Bool.eq_iff_iff]; simp_all),trivial⟩,H⟩
  ·intro h2;replace h2:=BE h2;refine Ce U CV C7 U H at0 U (Al U PN (Lg N a es.length c es _ (R.ext0 H.ext) U hN) U ?_);rintro v w ⟨rfl,hx13⟩;replace H:=H.call hx13;refine BG U U (AJ U U (.bool _) U (Ab ?_));exact ⟨rfl,(),rfl,⟨congrArg Value.bool (by rw [Bool.eq_iff_iff]; simp_all),trivial⟩,H⟩
 rintro - j15 w H;refine Aq _ U ?_ ?_
 ·intro h1;replace h1:=BD h1;refine Ad (Ae U U (Ae U U (Ae U U (Ab (Aa (A5 (Ao (Lz (v1:=(.int _ _)) (v2:=(.int _ _)) (v3:=(.int _ _)) U U U U U ?_))))))));exact ⟨by unfold F3; rw [if_neg (by rw [show (Kq es k && Cp N es)=false by simpa using h1]; simp)],H.ext⟩
 ·intro h1;replace h1:=BE h1;have h1':(Kq es k && Cp N es)=true:=by simpa using h1
  have hk:0≤k∧k<2*es.length:=by
   simp only [Bool.and_eq_true] at h1';have:=h1'.1;unfold Kq at this
   simpa using this
  obtain ⟨q,rfl⟩:∃ q:Nat,k=(q:Int):=⟨k.toNat,by omega⟩;obtain ⟨e,he⟩:=AD (l:=es) (i:=q / 2) (by omega);have hee:=(C8 (Bool.and_eq_true_iff.1 h1').2).2.2.2.1 e (List.mem_of_getElem? he);have hco:=Ez hee;have hE:F3 N es (q:Int)=Ht e q:=by unfold F3; rw [if_pos h1',Int.toNat_natCast,List.getD_eq_getElem?_getD,he]; rfl
  rw [hE];refine Av (Aa (Ad (Ce U CV C7 U H at0 U (Af U U (Al U Afr (Aab N a es.length c es _ (R.ext0 H.ext) U hb q he (by omega)) U ?_)))));rintro v w ⟨rfl,hx18⟩;replace H:=H.call hx18;refine AO U U U (AO U U U (AO U U U (Ae U U (Ae U U (Ae U U (Ab (Aa (A5 (Lz (v1:=(.int _ _)) (v2:=(.int _ _)) (v3:=(.int _ _)) U U U U U ?_)))))))));exact ⟨rfl,H.ext⟩
def Mm (e:Ed) (x:Int) (k:Nat):Int:=if k % 2=1 then x else e.cap - x
theorem Aac (N:Int) (a b:Option Addr) (n c m d:Nat) (es:List Ed) (fl:List Int) (w:World) (R:Rd w a 4 C4 es) (hn:es.length=n) (hb:n≤1000000) (Rf:Rd w b 1 I1 fl) (hm:fl.length=m) (k:Nat) {e:Ed} {x:Int} (he:es[k / 2]? = some e) (hx:fl[k / 2]? = some x) (hr : -9223372036854775808≤e.cap - x∧e.cap - x≤9223372036854775807) :
  Ret Tryz.prog 273 #[DG N a n c,.slice b m d,.int .i64 (k:Int)] w fun v w'=>v = .int .i64 (Mm e x k)∧Ext [] w w':=by
 subst hn hm;obtain ⟨w0,rfl⟩:∃ w0,w0=w:=⟨_,rfl⟩;have H:=Ctx.start w0 [];have hk:=Cu he;have hkx:=Cu hx;refine Au (fn:=Tryz.f273) Tryz.func273 U [DG N a es.length c,.slice b fl.length d,.int .i64 (k:Int)] U (by kernel_rfl) ?_;refine Ad (Bu U [.int .i64 N,.slice a es.length c] (.agg _) U U H ?_);rintro b3 w - H;refine Ae U U (Ab (Aa (Ad (A4 U U (Af U U (Iz (n:=1) U U U (by omega) ?_))))));rw [show k / 2 ^ 1=k / 2 from rfl];refine Bo Rf U AR Bx U U (by omega) (by omega) (by rfl) ?_;refine Bd U Bw U (((Rf.ext0 H.ext).fld hx U (j:=0) U)) ?_;refine Ae U U (Ab (Aa (Aw (Ad (Af U U (Al U XB (UA k (by omega) _) U ?_))))));rintro v w ⟨rfl,rfl⟩;refine Ab (Aa (Aq _ U ?_ ?_))
 ·intro h1;refine Ad (Af U U (Ae U U (Ab (Aa (A5 (Ao (AA (v:=(.int _ _)) U U U ?_)))))));exact ⟨by unfold Mm; rw [if_pos (of_decide_eq_true h1)],H.ext⟩
 ·intro h1;refine Av (Aa (Ad (Ah U CN U (AE U Ei U H at0 U (Af U U (Iz (n:=1) U U U (by omega) ?_))))));rw [show k / 2 ^ 1=k / 2 from rfl];refine Bo R U CW CX U U (by omega) (by omega) (by rfl) ?_;refine Ah U EG U (Bd U Bw U (((R.ext0 H.ext).fld he U (j:=2) U)) ?_);refine Af U U (Bp U U U (by omega) (by omega) ?_);refine Ae U U (Ab (Aa (A5 (AA (v:=(.int _ _)) U U U ?_))));exact ⟨by unfold Mm; rw [if_neg (of_decide_eq_false h1)],H.ext⟩
def Ka (N:Int) (es:List Ed) (fl:List Int) (k:Int):Int:=if (Kq es k && Cb N es fl)=true then Mm (es.getD (k.toNat / 2) ⟨0,0,0,0⟩) (fl.getD (k.toNat / 2) 0) k.toNat else 0
set_option maxRecDepth 20000 in
theorem Qf (N:Int) (a b:Option Addr) (n c m d:Nat) (es:List Ed) (fl:List Int) (w:World) (R:Rd w a 4 C4 es) (hn:es.length=n) (hb:n≤1000000) (hN:I64 N) (Rf:Rd w b 1 I1 fl) (hm:fl.length=m) (hm2:m≤9223372036854775000) (k:Int):Ret Tryz.prog 248 #[DG N a n c,.slice b m d,.int .i64 k] w fun v w'=>v = .int .i64 (Ka N es fl k)∧Ext [] w w':=by
 subst hn hm;obtain ⟨w0,rfl⟩:∃ w0,w0=w:=⟨_,rfl⟩;have H:=Ctx.start w0 [];refine Au (fn:=Tryz.f248) Tryz.func248 U [DG N a es.length c,.slice b fl.length d,.int .i64 k] U (by kernel_rfl) ?_;refine Ad (Bu U [.int .i64 N,.slice a es.length c] (.agg _) U U H ?_);rintro b3 w - H;refine Ae U U (Ab (Aa (Aw (Ad (Cw (α:=Unit) 130944 (fun _=>[(16,.bool (!(Kq es k && Cb N es fl)))]) (fun _ w'=>Ctx w0 [] w' [(b3,Bl 51 [.int .i64 N,.slice a es.length c])]) U ?_ ?_)))))
 ·refine Ce U CV C7 U H at0 U (Af U U (Al U X8 (XY N a es.length c es U hb k _) U ?_));rintro v w ⟨rfl,hx9⟩;replace H:=H.call hx9;refine BG U U (A7 U U (AV 11 U ?_ ?_))
  ·intro h1;replace h1:=BD h1;refine Ag U (Ag U (Ag U (Ag U (AG U U (.bool _) U (Ab ?_)))));exact ⟨rfl,(),rfl,⟨congrArg Value.bool (by rw [Bool.eq_iff_iff]; simp_all),trivial⟩,H⟩
  ·intro h2;replace h2:=BE h2;refine Ce U CV C7 U H at0 U (A4 U U (Al U PO (JK N a b es.length c fl.length d es fl _ (R.ext0 H.ext) U hN (Rf.ext0 H.ext) U hm2) U ?_));rintro v w ⟨rfl,hx14⟩;replace H:=H.call hx14;refine BG U U (AJ U U (.bool _) U (Ab ?_));exact ⟨rfl,(),rfl,⟨congrArg Value.bool (by rw [Bool.eq_iff_iff]; simp_all),trivial⟩,H⟩
 rintro - j16 w H;refine Aq _ U ?_ ?_
 ·intro h1;replace h1:=BD h1;refine Ad (Ae U U (Ab (Aa (A5 (Ao (AA (v:=(.int _ _)) U U U ?_))))));exact ⟨by unfold Ka; rw [if_neg (by rw [show (Kq es k && Cb N es fl)=false by simpa using h1]; simp)],H.ext⟩
 ·intro h1;replace h1:=BE h1;have h1':(Kq es k && Cb N es fl)=true:=by simpa using h1
  have hk:0≤k∧k<2*es.length:=by
   simp only [Bool.and_eq_true] at h1';have:=h1'.1;unfold Kq at this
   simpa using this
  obtain ⟨q,rfl⟩:∃ q:Nat,k=(q:Int):=⟨k.toNat,by omega⟩;obtain ⟨hl,hri,hin⟩:=Ck (Bool.and_eq_true_iff.1 h1').2;obtain ⟨e,he⟩:=AD (l:=es) (i:=q / 2) (by omega);obtain ⟨x,hx⟩:=AD (l:=fl) (i:=q / 2) (by omega);have hee:=(C8 hri).2.2.2.1 e (List.mem_of_getElem? he);have hco:=Ez hee;have hxx:=hin _ e x he hx;have hE:Ka N es fl (q:Int)=Mm e x q:=by unfold Ka; rw [if_pos h1',Int.toNat_natCast,List.getD_eq_getElem?_getD,he,List.getD_eq_getElem?_getD,hx]; rfl
  rw [hE];refine Av (Aa (Ad (Ce U CV C7 U H at0 U (A4 U U (Af U U (Al U Afo (Aac N a b es.length c fl.length d es fl _ (R.ext0 H.ext) U hb (Rf.ext0 H.ext) U q he hx (by omega)) U ?_))))));rintro v w ⟨rfl,hx20⟩;replace H:=H.call hx20;refine Ae U U (Ab (Aa (A5 (AA (v:=(.int _ _)) U U U ?_))));exact ⟨rfl,H.ext⟩

end Go.Proofs.YtdagmpmdcgedcaaGreat

/- What flows over: the walks. -/
namespace Go.Proofs.YtdagmpmdcgedcaaGreat
open Go.GV
attribute [local irreducible] AB W Wq Wt

abbrev ptr (b:Nat):Value := .pointer (some ⟨b,0,none⟩)
/-! ### Tables -/
def tab (f:Nat→Int) (n:Nat):List Int:=(List.range n).map f
theorem CT (f:Nat→Int) (n:Nat):(tab f n).length=n:=by unfold tab; simp
theorem BO {f:Nat→Int} {n i:Nat} (h:i<n):(tab f n)[i]? = some (f i):=DI h
theorem Agi (l:List Int):tab (fun i=>l.getD i 0) l.length=l:=by
 apply List.ext_getElem?;intro j
 by_cases hj:j<l.length
 ·rw [BO hj,List.getD_eq_getElem?_getD,List.getElem?_eq_getElem hj]; rfl
 ·rw [List.getElem?_eq_none (by rw [CT]; omega),List.getElem?_eq_none (by omega)]
theorem NB {f:Nat→Int} {n i:Nat} {x:Int} (h:(tab f n)[i]? = some x):i<n∧x=f i:=by
 have h1:=Cu h;rw [CT] at h1;rw [BO h1] at h;cases h;exact ⟨h1,rfl⟩
abbrev BN (f:Nat→Int) (n:Nat):List Value:=(List.range n).map fun i => .int .i64 (f i)
theorem VI (f:Nat→Int) (n:Nat):BN f n=(tab f n).flatMap I1:=by
 unfold tab I1;rw [WR,List.map_map]; rfl
theorem Cs {w:World} {b:Nat} {t:TypeId} {f:Nat→Int} {n:Nat} (h:w.heap[b]? = some (Bl t (BN f n))):Rd w (some ⟨b,0,none⟩) 1 I1 (tab f n) :=
 Rd.of_bl (r:=[]) (enc:=I1) (xs:=tab f n) h (by rw [VI,List.append_nil]) fun _ _=>rfl

def e0:Ed:=⟨0,0,0,0⟩
/-- A net as a graph. -/
def grE (N:Int) (es:List Ed):Gr:=⟨N.toNat,es.length,fun i=>(es.getD i e0).f.toNat,fun i=>(es.getD i e0).t.toNat,fun i=>(es.getD i e0).cost⟩
def Cf (es:List Ed) (i:Nat):Int:=(es.getD i e0).cap
def flE (fl:List Int) (i:Nat):Int:=fl.getD i 0
theorem Bm {α:Type} {l:List α} {i:Nat} {x d:α} (h:l[i]? = some x):l.getD i d=x:=by rw [List.getD_eq_getElem?_getD,h]; rfl
def Mn (N:Int) (es:List Ed) (fl:List Int):List Int:=tab (B6 (grE N es) (flE fl)) N.toNat
def Fs (N:Int) (es:List Ed) (fl:List Int):Bool:=Cb N es fl && (Mn N es fl).all fun x=>decide (x=0)

/-! ### The edges, one by one -/
theorem XZ (N:Int) (a b:Option Addr) (n c m d:Nat) (w:World):Ret Tryz.prog 275 #[DG N a n c,.slice b m d] w fun v w'=>∃ b2 b3,v = .func (.func 284) #[] #[ptr b2,ptr b3]∧w'.heap[b2]? = some (Bl 51 [.int .i64 N,.slice a n c])∧w'.heap[b3]? = some (Bl 35 [.slice b m d])∧w.heap.size≤b2∧w.heap.size≤b3∧b2≠b3∧Ext [] w w':=by
 obtain ⟨w0,rfl⟩:∃ w0,w0=w:=⟨_,rfl⟩;have H:=Ctx.start w0 [];refine Au (fn:=Tryz.f275) Tryz.func275 U [DG N a n c,.slice b m d] U (by kernel_rfl) ?_;refine Ad (Bu U [.int .i64 N,.slice a n c] (.agg _) U U H ?_);rintro b2 w - H;refine Bu U _ (.slice _ _ _) U U H ?_;rintro b3 w - H;refine CK U .nilFunc U ?_;refine Ab (Aa (Ad (BZ U [.pointer _,.pointer _] U (CK U (.func _ _ _) U ?_))));refine Ab (Aa (A5 (AA (v:=(.func _ _ _)) U U U ?_)));have ho:∀ x∈[(b3,Bl 35 [.slice b m d]),(b2,Bl 51 [.int .i64 N,.slice a n c])],w0.heap.size≤x.1:=fun x hx=>(H.own x hx).elim (fun h=>by cases h) id;exact ⟨b2,b3,rfl,H.get at1,H.get at0,ho (b2,_) (List.mem_cons_of_mem _ (List.mem_cons_self ..)),ho (b3,_) (List.mem_cons_self ..),H.ne at1 at0 (by decide),H.ext⟩
def UB (p:Ed × Int):List Value:=[.agg (C4 p.1).toArray,.int .i64 p.2]
/-- What the rounds leave. -/
structure EdgeK (b2 b3:Nat) (N:Int) (a b:Option Addr) (n c m d:Nat) (es:List Ed) (fl:List Int) (w:World):Prop where
 h2:w.heap[b2]? = some (Bl 51 [.int .i64 N,.slice a n c])
 h3:w.heap[b3]? = some (Bl 35 [.slice b m d])
 R:Rd w a 4 C4 es
 Rf:Rd w b 1 I1 fl
theorem Aad {α β:Type} {l:List α} {m:List β} {i:Nat} {x:α} {y:β} (h1:l[i]? = some x) (h2:m[i]? = some y):(l.zip m)[i]? = some (x,y):=by
 rw [List.getElem?_zip_eq_some]; exact ⟨h1,h2⟩

set_option maxRecDepth 20000 in
set_option maxHeartbeats 2000000 in
theorem VJ {b2 b3:Nat} {N:Int} {a b:Option Addr} {n c m d:Nat} {es:List Ed} {fl:List Int} (hn:es.length=n) (hm:fl.length=m) (hnm:n=m) (hn2:n≤1000000):PC Tryz.prog 284 #[ptr b2,ptr b3] [] (fun _ w=>EdgeK b2 b3 N a b n c m d es fl w) ((es.zip fl).map UB):=by
 subst hn hm;intro l w J E hJ0 hJs hEs hK hY;obtain ⟨M0,hJ0⟩:=hJ0;obtain ⟨w0,rfl⟩:∃ w0,w0=w:=⟨_,rfl⟩;have hlen:((es.zip fl).map UB).length=es.length:=by rw [List.length_map,List.length_zip]; omega
 refine Au (fn:=Tryz.f284) Tryz.func284 U [.func (.yield l) #[] #[],.pointer (some ⟨b2,0,none⟩),.pointer (some ⟨b3,0,none⟩)] U (by kernel_rfl) ?_;have K0:=(hK _ _ _ hJ0).2;refine Ad (Ah U CN U (Bd U Ei U ((by rw [Aj K0.h2]; rfl)) ?_));refine Bf U CW U (Af U U (Ab (Aa (Az (Bv 8388144 (α:=Nat) (fun i=>[(9,.int .i64 (i:Int))]) (fun i w'=>i≤es.length∧∃ M,J i M w') (fun i=>es.length - i) 0 U ?_ ?_ ?_)))))
 ·exact ⟨rfl,trivial⟩
 ·exact ⟨Nat.zero_le _,M0,hJ0⟩
 ·rintro i j w ⟨hi,M,hJ⟩;have KK:=(hK _ _ _ hJ).2;have R:=KK.R;have Rf:=KK.Rf;obtain ⟨w1,rfl⟩:∃ w1,w1=w:=⟨_,rfl⟩;have H:=Ctx.start w1 [];refine Ad (Bj U U U (Ab (Aa (Aw (Aq _ U ?_ ?_)))))
  ·intro h1;replace h1:=AM h1;obtain ⟨e,he⟩:=AD (l:=es) (i:=i) (by omega);obtain ⟨x,hfx⟩:=AD (l:=fl) (i:=i) (by omega);refine Av (Aa (Aw (Az (Ad (Af U U (Bo R U CW CX U U (by omega) (by omega) (by rfl) ?_))))));refine Cn _ U Ib CX U U ((R.ext0 H.ext).row he U) ?_;refine AZ U GZ H ?_;rintro b5 w - H;refine Ae U U (Bn U CX U U U (by exact He _) H at0 U ?_);rintro w H;refine Ab (Aa ?_);have hY1:=hY i (UB (e,x)) M w.drew (by rw [List.getElem?_map,Aad he hfx]; rfl) (hJs _ _ _ _ hJ (H.ext.trans (Ext.drew [] w)));have KR:=(hK _ _ _ (hJs _ _ _ _ hJ (H.ext.trans (Ext.drew [] w)))).2;refine DM 6 Bq (by kernel_rfl) U U ?_;refine L7 U (.func _ _ _) U ?_;refine Nd U Ib CX U (by rintro _ rfl; exact H.drew) at0 U ?_;refine BP U BL U (by rintro _ rfl; exact ((by rw [Aj KR.h3]; rfl))) ?_;refine AU U U (BM Rf U AR Bx U U (by omega) (by omega) (by rfl) ?_)
   refine BP U Bw U (by rintro _ rfl; exact ((KR.Rf.fld hfx rfl (j:=0) rfl))) ?_;refine BK ?_;replace H:=H.drew;refine Gq (vs:=UB (e,x)) U U hY1 U ?_;rintro u w hu;obtain ⟨bb,rfl,hu1,hu0⟩:∃ bb,u = .bool bb∧(bb=true→∃ M,J (i+1) M w)∧(bb=false→E w):=hu.elim (fun h=>⟨true,h.1,fun _=>let ⟨M',h1,_⟩:=h.2; ⟨M',h1⟩,fun h=>by cases h⟩) (fun h=>⟨false,h.1,(fun h=>by cases h),fun _=>h.2⟩);refine BG U U (Ab (Aa (Aq _ U ?_ ?_)))
   ·intro h2;replace h2:=BD h2;refine A5 (A9 (Ao (Ao (A9 (Fo U U ?_)))));exact .inr (hu0 (by simpa using h2))
   ·intro h2;replace h2:=BE h2;refine Av (A6 (Aa (A0 (Ay U U U (by omega) (by omega) ?_))));refine Af U U (Ab (Aa ?_));exact ⟨i+1,rfl,⟨rfl,trivial⟩,⟨by omega,hu1 (by simpa using h2)⟩,by omega⟩
  ·intro h1;replace h1:=AN h1;refine Bt (Am (Am (AK (CG U U ?_))));obtain rfl:i=es.length:=by omega
   exact .inl ⟨M,by rw [hlen]; exact hJ⟩

/-! ### What comes to each node, less what goes -/
theorem FM {p:Prop} [Decidable p] (h:p):one p=1:=if_pos h
theorem Fj {p:Prop} [Decidable p] (h:¬ p):one p=0:=if_neg h
theorem Dc (p:Nat→Int) (v:Nat) (x:Int):upd p v x v=x:=if_pos rfl
theorem Ee {p:Nat→Int} {v:Nat} {x:Int} {u:Nat} (h:u≠v):upd p v x u=p u:=if_neg h
theorem FY (g:Gr) (x:Nat→Int) (k v:Nat):DQ g x (k+1) v=DQ g x k v+(one (g.t k=v) - one (g.f k=v))*x k:=rfl

set_option maxRecDepth 20000 in
set_option maxHeartbeats 4000000 in
theorem Aae (N:Int) (a b:Option Addr) (n c m d:Nat) (es:List Ed) (fl:List Int) (w:World) (R:Rd w a 4 C4 es) (hn:es.length=n) (hN:I64 N) (Rf:Rd w b 1 I1 fl) (hm:fl.length=m) (hm2:m≤9223372036854775000) :
  Ret Tryz.prog 252 #[DG N a n c,.slice b m d] w fun v w'=>(Cb N es fl=false→v = .slice none 0 0)∧(Cb N es fl=true→∃ b',v = .slice (some ⟨b',0,none⟩) N.toNat N.toNat∧w'.heap[b']? = some (Bl 2 (BN (B6 (grE N es) (flE fl)) N.toNat))∧w.heap.size≤b')∧Ext [] w w':=by
 subst hn hm;obtain ⟨w0,rfl⟩:∃ w0,w0=w:=⟨_,rfl⟩;have H:=Ctx.start w0 [];refine GN (fn:=Tryz.f252) Tryz.func252 U [DG N a es.length c,.slice b fl.length d] U (by kernel_rfl) ?_;refine Ad (Bu U [.int .i64 N,.slice a es.length c] (.agg _) U U H ?_);rintro b2 w - H;refine A1 U U (Ab (Aa (Aw (Ad (Ce U CV C7 U H at0 U (A4 U U (Al U PO (JK N a b es.length c fl.length d es fl _ (R.ext0 H.ext) U hN (Rf.ext0 H.ext) U hm2) U ?_)))))));rintro v w ⟨rfl,hx10⟩;replace H:=H.call hx10;refine BG U U (Ab (Aa (Aq _ U ?_ ?_)))
 ·intro h1;replace h1:=BD h1;refine Ad (A1 U U (Ab (Aa (A5 (Ao (KH (v:=(.slice _ _ _)) U U ?_))))));have h1':Cb N es fl=false:=by simpa using h1
  exact ⟨fun _=>rfl,fun h=>(by rw [h1'] at h; cases h),H.ext⟩
 ·intro h1;replace h1:=BE h1;have h1':Cb N es fl=true:=by simpa using h1
  obtain ⟨hl,hr,hin⟩:=Ck h1';obtain ⟨hN1,hN40,hn200,hed,-⟩:=C8 hr;obtain ⟨nn,rfl⟩:∃ nn:Nat,N=(nn:Int):=⟨N.toNat,by omega⟩;obtain ⟨g,hg⟩:∃ g,g=grE (nn:Int) es:=⟨_,rfl⟩;obtain ⟨x,hx⟩:∃ x,x=flE fl:=⟨_,rfl⟩;have hgE:g.E=es.length:=by rw [hg]; rfl
  refine Av (Aa (Ad (Ah U Ex U (AE U BS U H at0 U (GD U AR Bx Kl Eb U U (by omega) (by omega) (by omega) (by omega) H ?_)))));rintro b14 w - H;rw [show ((nn:Int)).toNat=nn from rfl,EB] at H;refine AZ U Acr H ?_;rintro b5 w - H;refine Cg (.slice _ _ _) U Acn U U U H at0 (by decide) ?_;rintro w H;refine Ab (Aa (Aw (Ad (Ce U CV C7 U H at2 U (A4 U U ?_)))));have hlt:=H.lt (k:=0) rfl;have hlt1:=H.lt (k:=1) rfl;refine Al U Afq (XZ (nn:Int) a b es.length c fl.length d _) U ?_;rintro v w ⟨x2,x3,rfl,hb2,hb3,hs2,hs3,hne,hx17⟩;have H3:=(H.callAdd hx17 hb2 hs2).add hb3 (.inr (Nat.le_trans H.size hs3)) (fun y hy=>(List.mem_cons.1 hy).elim (fun h=>by rw [h]; exact hne) fun hy=>Nat.ne_of_lt (Nat.lt_of_lt_of_le (Bb (H.blk y hy)) hs3));refine Ab (Aa (Az ?_));obtain ⟨ws,rfl⟩:∃ z,z=w:=⟨_,rfl⟩;have hk3:=H3.lt (k:=0) rfl;have hk2:=H3.lt (k:=1) rfl;have hk5:=H3.lt (k:=2) rfl;have hk14:=H3.lt (k:=3) rfl
  have hkb:=H3.lt (k:=4) rfl;have hs0:=H3.size;replace H3:=H3.perm (List.perm_middle (l₁:=[_,_,_]) (l₂:=[_]))
  refine MD (gf:=284) U Afv (VJ (b2:=x2) (b3:=x3) (N:=(nn:Int)) (a:=a) (b:=b) (c:=c) (d:=d) (es:=es) (fl:=fl) U U hl.symm (by omega)) (by kernel_rfl) (by kernel_rfl) (fun v hv=>by obtain ⟨p,-,rfl⟩:=List.mem_map.1 hv; rfl)
   (fun i M w'=>(M=fun y=>y=b14)∧Ctx w0 [] w' [(b14,Bl 2 (BN (DQ g x i) nn)),(x3,Bl 35 [.slice b fl.length d]),(x2,Bl 51 [.int .i64 (nn:Int),.slice a es.length c]),(b5,Bl 35 [.slice (some ⟨b14,0,none⟩) nn nn]),(b2,Bl 51 [.int .i64 (nn:Int),.slice a es.length c])]) (fun _=>False) (by simp)
   (fun w2 hx2 _=>⟨_,rfl,H3.call hx2⟩) (fun i M w' w'' hJ hx=>⟨hJ.1,hJ.2.step hx (fun y hy=>?_) fun z hz => .inr ?_⟩) (fun _ _ h _=>h) (fun i M w' hJ=>⟨fun y hy=>?_,hJ.2.get at2,hJ.2.get at1,R.ext0 hJ.2.ext,Rf.ext0 hJ.2.ext⟩) ?_ ?_ (fun _ h _=>h.elim)
  ·simp only [List.mem_cons,List.not_mem_nil,or_false] at hy ⊢
   rcases hy with rfl | rfl | rfl | rfl | rfl <;> (dsimp only; omega)
  ·simp only [List.mem_cons,List.not_mem_nil,or_false] at hz;omega
  ·rw [hJ.1] at hy;subst hy;exact ⟨Bb (hJ.2.get at0),by omega,by omega⟩
  ·rintro i v _ w hxv ⟨rfl,HJ⟩ hsz;rw [List.getElem?_map] at hxv;obtain ⟨⟨e,xx⟩,hez,rfl⟩:=Option.map_eq_some_iff.1 hxv;obtain ⟨he,hfx⟩:=List.getElem?_zip_eq_some.1 hez;have hi:=Cu he;obtain ⟨hf0,hfN,ht0,htN,-⟩:=Ez (hed e (List.mem_of_getElem? he));obtain ⟨fn,hfn⟩:∃ fn:Nat,e.f=fn:=⟨e.f.toNat,by omega⟩;obtain ⟨tn,htn⟩:∃ tn:Nat,e.t=tn:=⟨e.t.toNat,by omega⟩;have hgf:g.f i=fn:=by rw [hg]; show ((es.getD i e0).f.toNat)=fn; rw [Bm he,hfn]; rfl
   have hgt:g.t i=tn:=by rw [hg]; show ((es.getD i e0).t.toNat)=tn; rw [Bm he,htn]; rfl
   have hxi:x i=xx:=by rw [hx]; exact Bm hfx
   have hxb:∀ j,j<i+1→0≤x j∧x j≤4503599627370496:=fun j hj=>by
    obtain ⟨e',he'⟩:=AD (l:=es) (i:=j) (by omega);obtain ⟨y,hy⟩:=AD (l:=fl) (i:=j) (by omega);have h3:=hin j e' y he' hy;have h4:=Ez (hed e' (List.mem_of_getElem? he'));rw [hx];show 0≤fl.getD j 0∧fl.getD j 0≤4503599627370496;rw [Bm hy];omega
   have hbf:=Ju (g:=g) (x:=x) fn (k:=i) fun j hj=>hxb j (by omega);have hbt:=Ju (g:=g) (x:=x) tn (k:=i) fun j hj=>hxb j (by omega);have hxx:=hxb i (by omega);rw [hxi] at hxx;obtain ⟨o',ho'⟩:∃ o',o'=upd (DQ g x i) fn (DQ g x i fn - xx):=⟨_,rfl⟩;have hof:o' fn=DQ g x i fn - xx:=by rw [ho',Dc]
   have hon:∀ q,q≠fn→o' q=DQ g x i q:=fun q hq=>by rw [ho',Ee hq]
   have hot : -(201*4503599627370496)≤o' tn∧o' tn≤201*4503599627370496:=by
    by_cases h:tn=fn
    ·rw [h,hof]; omega
    ·rw [hon tn h]; omega
   have hst:∀ q,DQ g x (i+1) q=upd o' tn (o' tn+xx) q:=fun q=>by
    rw [FY,hgf,hgt,hxi]
    by_cases h1:q=tn
    ·subst h1;rw [Dc,FM rfl]
     by_cases h2:fn=q
     ·subst h2; rw [FM rfl,hof]; omega
     ·rw [Fj h2,hon q (Ne.symm h2)]; omega
    ·rw [Ee h1,Fj (Ne.symm h1)]
     by_cases h2:fn=q
     ·subst h2; rw [FM rfl,hof]; omega
     ·rw [Fj h2,hon q (Ne.symm h2)]; omega
   obtain ⟨w1,rfl⟩:∃ z,z=w:=⟨_,rfl⟩;have H:=Ctx.start w1 [];refine Ad (AZ U GZ H ?_);rintro b6 w - H;refine Bn U CX U U U (by exact He _) H at0 U ?_;rintro w H;refine Ab (Aa (A0 (Ae U U (Ab ?_))));refine ⟨H.ext,fun wB hxB=>?_⟩;have hb6:=(H.own _ (List.mem_cons_self ..)).elim (fun h=>by cases h) id
   have HB:=((HJ.callAdd H.ext (H.get at0) hb6).step hxB (fun y hy=>by
    simp only [List.mem_cons,List.not_mem_nil,or_false] at hy ⊢
    rcases hy with rfl | rfl | rfl | rfl | rfl | rfl <;> (dsimp only; omega)) (fun z hz => .inr (by rw [List.mem_singleton.1 hz]; omega))).perm (List.Perm.swap _ _ _)
   obtain ⟨w2,rfl⟩:∃ z,z=wB:=⟨_,rfl⟩;have hb6B:=HB.get at1;have hb5B:=HB.get at4;have hn6:b6∉[b14]:=by rw [List.mem_singleton]; omega
   have hn5:b5∉[b14]:=by rw [List.mem_singleton]; exact HB.ne at4 at0 (by decide)
   have H:=Ctx.lend (L1:=[_]) (L2:=_) HB;dsimp only [List.map] at H;refine Az (Ad (Bd U BL U ((H.old (Aj hb5B _) hn5)) ?_));refine Ah U FI U (Bd U BS U ((H.old (Aj hb6B _) hn6)) ?_);refine Bh U AR Bx U U (by omega) (by omega) ?_;refine PA fn _ U Bw U H at0 (by rw [hfn]; simp) (by omega) U ?_;refine Af U U (Bp U U U (by omega) (by omega) ?_);refine Bh U AR Bx U U (by omega) (by omega) ?_;refine BT fn (fun q => .int .i64 (o' q)) (.int _ _) U Bx U U U H at0 (by rw [hfn]; simp) (by omega) (by rw [hof]) (fun q _ hq=>by rw [hon q hq]) ?_;rintro w H;refine Ab (Aa (A0 (Bd U BL U ((H.old (Aj hb5B _) hn5)) ?_)));refine Ah U FJ U (Bd U BS U ((H.old (Aj hb6B _) hn6)) ?_);refine Bh U AR Bx U U (by omega) (by omega) ?_;refine PA tn _ U Bw U H at0 (by rw [htn]; simp) (by omega) U ?_;refine Af U U (Ay U U U (by omega) (by omega) ?_);refine Bh U AR Bx U U (by omega) (by omega) ?_
   refine BT tn (fun q => .int .i64 (DQ g x (i+1) q)) (.int _ _) U Bx U U U H at0 (by rw [htn]; simp) (by omega) (by rw [hst,Dc]) (fun q _ hq=>by rw [hst,Ee hq]) ?_;rintro w H;refine Ab (A6 ?_);exact ⟨_,⟨rfl,((Ctx.back (L1:=[_]) (L1':=[_]) HB H).perm (List.Perm.swap _ _ _)).tail⟩,fun y h => .inl h,[b14],H.ext,fun y hy => .inl (List.mem_singleton.1 hy)⟩
  ·rintro M w ⟨-,HJ⟩ hD;rw [List.length_map,List.length_zip,hl,Nat.min_self] at HJ;replace H:=HJ;refine A6 (Aa (Ad (AE U BL U H at3 U (A1 U U (Ab (Aa (A5 (KH (v:=(.slice _ _ _)) U U (GO hD U fun wF hxF=>?_)))))))));refine ⟨fun h=>(by rw [h1'] at h; cases h),fun _=>⟨b14,rfl,?_,?_⟩,H.ext.then hxF fun z hz => .inr (by rw [List.mem_singleton.1 hz]; omega)⟩
   ·rw [hxF.block b14 (Bb (H.get at0)) (by rw [List.mem_singleton]; omega)];have h3:=H.get at0;rw [show B6 (grE (nn:Int) es) (flE fl)=DQ g x es.length by rw [hg,hx]; rfl];exact h3
   ·exact (H.own (b14,_) (List.mem_of_getElem? (i:=0) U)).elim (fun h=>by cases h) id

theorem Ya (N:Int) (a b:Option Addr) (n c m d:Nat) (es:List Ed) (fl:List Int) (w:World) (R:Rd w a 4 C4 es) (hn:es.length=n) (hN:I64 N) (Rf:Rd w b 1 I1 fl) (hm:fl.length=m) (hm2:m≤9223372036854775000) :
  Ret Tryz.prog 215 #[DG N a n c,.slice b m d] w fun v w'=>v = .bool (Fs N es fl)∧Ext [] w w':=by
 subst hn hm;obtain ⟨w0,rfl⟩:∃ w0,w0=w:=⟨_,rfl⟩;have H:=Ctx.start w0 [];refine Au (fn:=Tryz.f215) Tryz.func215 U [DG N a es.length c,.slice b fl.length d] U (by kernel_rfl) ?_;refine Ad (Bu U [.int .i64 N,.slice a es.length c] (.agg _) U U H ?_);rintro b2 w - H;refine Ai U U (Ab (Aa (Aw (Ad (Ce U CV C7 U H at0 U (A4 U U (Al U PO (JK N a b es.length c fl.length d es fl _ (R.ext0 H.ext) U hN (Rf.ext0 H.ext) U hm2) U ?_)))))));rintro v w ⟨rfl,hx9⟩;replace H:=H.call hx9;refine BG U U (Ab (Aa (Aq _ U ?_ ?_)))
 ·intro h1;replace h1:=BD h1;refine Ad (Ai U U (Ab (Aa (A5 (Ao (AA (v:=(.bool _)) U U U ?_))))));have h1':Cb N es fl=false:=by simpa using h1
  exact ⟨congrArg Value.bool (by unfold Fs; rw [h1']; rfl),H.ext⟩
 ·intro h1;replace h1:=BE h1;have h1':Cb N es fl=true:=by simpa using h1
  have hfN:Fs N es fl=(Mn N es fl).all fun x=>decide (x=0):=by unfold Fs; rw [h1']; rfl
  obtain ⟨hN1,hN40,-⟩:=C8 (Ck h1').2.1;obtain ⟨nn,rfl⟩:∃ nn:Nat,N=(nn:Int):=⟨N.toNat,by omega⟩;refine Av (Aa (Aw (Ad (Ce U CV C7 U H at0 U (A4 U U (Al U Afd (Aae (nn:Int) a b es.length c fl.length d es fl _ (R.ext0 H.ext) U hN (Rf.ext0 H.ext) U hm2) U ?_))))));rintro v w ⟨-,hv,hx13⟩;obtain ⟨b13,rfl,hb13,hs13⟩:=hv h1';replace H:=H.call hx13;have R7:=Cs hb13;rw [show ((nn:Int)).toNat=nn from rfl] at R7 ⊢;refine Bf U AR U (Af U U (Ab (Aa (Az ?_))));have hov:Mn (nn:Int) es fl=tab (B6 (grE (nn:Int) es) (flE fl)) nn:=rfl;rw [← hov] at R7;have hlen:(Mn (nn:Int) es fl).length=nn:=by rw [hov,CT]
  obtain ⟨w7,rfl⟩:∃ z,z=w:=⟨_,rfl⟩;refine Bv 4161616 (α:=Nat) (fun i=>[(15,.int .i64 (i:Int))]) (fun i w'=>i≤nn∧Ext [] w7 w'∧Ctx w0 [] w' [(b2,Bl 51 [.int .i64 (nn:Int),.slice a es.length c])]∧∀ (k:Nat) (x:Int),k<i→(Mn (nn:Int) es fl)[k]? = some x→decide (x=0)=true) (fun i=>nn - i) 0 U ?_ ?_ ?_
  ·exact ⟨rfl,trivial⟩
  ·exact ⟨Nat.zero_le _,.refl _ _,H,fun k x h=>absurd h (Nat.not_lt_zero _)⟩
  ·rintro i j w ⟨hi,hx7,H,hb⟩;refine Ad (Bj U U U (Ab (Aa (Aw (Aq _ U ?_ ?_)))))
   ·intro h2;replace h2:=AM h2;obtain ⟨x,h7x⟩:=AD (l:=Mn (nn:Int) es fl) (i:=i) (by omega);refine Av (Aa (Aw (Az (Ad (Bo R7 U AR Bx U U (by omega) (by omega) (by omega) ?_)))));refine Bd U Bw U (((R7.ext0 hx7).fld h7x U (j:=0) U)) ?_;refine Ae U U (Ab (Aa (Ad (Af U U (CI U U U (Ab (Aa (Aq _ U ?_ ?_))))))))
    ·intro h3;replace h3:=CE h3;refine Ad (Ai U U (Ab (Aa (A5 (A9 (Ao (Ao (A9 (Ao (AA (v:=(.bool _)) U U U ?_))))))))));exact ⟨congrArg Value.bool (by rw [hfN,El h7x (decide_eq_false (by simpa using h3))]),H.ext⟩
    ·intro h3;replace h3:=CF h3;refine Av (A6 (Aa (A0 (Ay U U U (by omega) (by omega) ?_))));refine Af U U (Ab (Aa ?_));refine ⟨i+1,rfl,⟨rfl,trivial⟩,⟨by omega,hx7,H,fun k y hk hy=>?_⟩,by omega⟩
     rcases Nat.lt_or_ge k i with h7 | h7
     ·exact hb k y h7 hy
     ·obtain rfl:k=i:=by omega
      rw [h7x] at hy;cases hy
      simpa using h3
   ·intro h2;replace h2:=AN h2;refine Bt (Am (Am (AK (Aa (Ad (Ai U U (Ab (Aa (A5 (AA (v:=(.bool _)) U U U ?_))))))))));exact ⟨congrArg Value.bool (by rw [hfN,Fi fun k x hk hx=>hb k x (by omega) hx]),H.ext⟩
theorem E4 {N:Int} {es:List Ed} {fl:List Int} (h:Fs N es fl=true):Cb N es fl=true∧∀ v,v<N.toNat→B6 (grE N es) (flE fl) v=0:=by
 unfold Fs Mn at h;rw [Bool.and_eq_true] at h;refine ⟨h.1,fun v hv=>?_⟩;have h2:=List.all_eq_true.1 h.2 _ (List.mem_of_getElem? (BO hv))
 simpa using h2

end Go.Proofs.YtdagmpmdcgedcaaGreat
