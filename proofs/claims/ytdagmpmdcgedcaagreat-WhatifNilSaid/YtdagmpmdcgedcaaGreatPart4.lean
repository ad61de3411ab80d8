/- Part 4 of the proof. -/
import Derived.Test.YtdagmpmdcgedcaaGreatProg
import Derived.KernelRfl
import Derived.Test.YtdagmpmdcgedcaaGreatPart1
import Derived.Test.YtdagmpmdcgedcaaGreatPart2
import Derived.Test.YtdagmpmdcgedcaaGreatPart3
namespace Go.Proofs.YtdagmpmdcgedcaaGreat
open Go.GV
theorem Fw:Dl Tryz.prog 101=some false:=by kernel_rfl
theorem M9:Dl Tryz.prog 103=some false:=by kernel_rfl
theorem Agm:Dl Tryz.prog 111=some false:=by kernel_rfl
theorem Fa:Dl Tryz.prog 163=some false:=by kernel_rfl
theorem Bw:Dl Tryz.prog 2=some false:=by kernel_rfl
theorem VH:Dl Tryz.prog 22=some false:=by kernel_rfl
theorem Agn:Dl Tryz.prog 223=some true:=by kernel_rfl
theorem Afn:Dl Tryz.prog 23=some false:=by kernel_rfl
theorem EB:Dl Tryz.prog 252=some false:=by kernel_rfl
theorem Ek:Dl Tryz.prog 26=some false:=by kernel_rfl
theorem Ic:Dl Tryz.prog 27=some false:=by kernel_rfl
theorem B5:Dl Tryz.prog 28=some false:=by kernel_rfl
theorem Lf:Dl Tryz.prog 286=some false:=by kernel_rfl
theorem Afo:Dl Tryz.prog 29=some false:=by kernel_rfl
theorem Iw:Dl Tryz.prog 291=some false:=by kernel_rfl
theorem Rr:Dl Tryz.prog 292=some false:=by kernel_rfl
theorem UC:Dl Tryz.prog 299=some true:=by kernel_rfl
theorem Ca:Dl Tryz.prog 3=some false:=by kernel_rfl
theorem UD:Dl Tryz.prog 300=some false:=by kernel_rfl
theorem D6:Dl Tryz.prog 316=some false:=by kernel_rfl
theorem J9:Dl Tryz.prog 32=some true:=by kernel_rfl
theorem Hm:Dl Tryz.prog 321=some true:=by kernel_rfl
theorem Qq:Dl Tryz.prog 34=some false:=by kernel_rfl
theorem Cg:Dl Tryz.prog 35=some false:=by kernel_rfl
theorem VI:Dl Tryz.prog 37=some true:=by kernel_rfl
theorem JQ:Dl Tryz.prog 4=some false:=by kernel_rfl
theorem Qr:Dl Tryz.prog 40=some true:=by kernel_rfl
theorem Qs:Dl Tryz.prog 43=some true:=by kernel_rfl
theorem JR:Dl Tryz.prog 48=some false:=by kernel_rfl
theorem Fs:Dl Tryz.prog 49=some false:=by kernel_rfl
theorem ag_5:Dl Tryz.prog 5=some false:=by kernel_rfl
theorem Df:Dl Tryz.prog 51=some true:=by kernel_rfl
theorem Tk:Dl Tryz.prog 53=some true:=by kernel_rfl
theorem FT:Dl Tryz.prog 55=some true:=by kernel_rfl
theorem JS:Dl Tryz.prog 59=some true:=by kernel_rfl
theorem Ft:Dl Tryz.prog 67=some true:=by kernel_rfl
theorem YC:Dl Tryz.prog 80=some false:=by kernel_rfl
theorem Ie:Dl Tryz.prog 94=some false:=by kernel_rfl
theorem Ig:Dl Tryz.prog 99=some false:=by kernel_rfl
theorem YD:SM Tryz.prog 113=some (16,111):=by kernel_rfl
theorem UE:SM Tryz.prog 166=some (4,55):=by kernel_rfl
theorem Lg:D4 Tryz.prog 2=some 8:=by kernel_rfl
theorem VJ:D4 Tryz.prog 28=some 8:=by kernel_rfl
theorem Ago:D4 Tryz.prog 299=some 32:=by kernel_rfl
theorem by_3:D4 Tryz.prog 3=some 8:=by kernel_rfl
theorem Agp:D4 Tryz.prog 300=some 24:=by kernel_rfl
theorem Agq:D4 Tryz.prog 321=some 16:=by kernel_rfl
theorem by_37:D4 Tryz.prog 37=some 32:=by kernel_rfl
theorem by_40:D4 Tryz.prog 40=some 56:=by kernel_rfl
theorem Afp:D4 Tryz.prog 43=some 16:=by kernel_rfl
theorem by_55:D4 Tryz.prog 55=some 128:=by kernel_rfl
theorem YE:D4 Tryz.prog 59=some 32:=by kernel_rfl
theorem YF:D4 Tryz.prog 67=some 56:=by kernel_rfl
theorem Agr:Av Tryz.prog 100=true:=by kernel_rfl
theorem UF:Av Tryz.prog 101=true:=by kernel_rfl
theorem Ags:Av Tryz.prog 102=true:=by kernel_rfl
theorem Rt:Av Tryz.prog 103=true:=by kernel_rfl
theorem Agt:Av Tryz.prog 104=true:=by kernel_rfl
theorem Agu:Av Tryz.prog 105=true:=by kernel_rfl
theorem Agv:Av Tryz.prog 106=true:=by kernel_rfl
theorem Agw:Av Tryz.prog 107=true:=by kernel_rfl
theorem Agx:Av Tryz.prog 108=true:=by kernel_rfl
theorem Agy:Av Tryz.prog 109=true:=by kernel_rfl
theorem Agz:Av Tryz.prog 110=true:=by kernel_rfl
theorem Ag0:Av Tryz.prog 111=true:=by kernel_rfl
theorem YG:Av Tryz.prog 112=true:=by kernel_rfl
theorem Ag1:Av Tryz.prog 113=true:=by kernel_rfl
theorem YH:Av Tryz.prog 114=true:=by kernel_rfl
theorem Ag2:Av Tryz.prog 115=true:=by kernel_rfl
theorem Ag3:Av Tryz.prog 116=true:=by kernel_rfl
theorem Ru:Av Tryz.prog 117=true:=by kernel_rfl
theorem UG:Av Tryz.prog 118=true:=by kernel_rfl
theorem YI:Av Tryz.prog 119=true:=by kernel_rfl
theorem Rv:Av Tryz.prog 120=true:=by kernel_rfl
theorem Jn:Av Tryz.prog 130=true:=by kernel_rfl
theorem MA:Av Tryz.prog 131=true:=by kernel_rfl
theorem Rx:Av Tryz.prog 132=true:=by kernel_rfl
theorem YJ:Av Tryz.prog 133=true:=by kernel_rfl
theorem YK:Av Tryz.prog 134=true:=by kernel_rfl
theorem YL:Av Tryz.prog 135=true:=by kernel_rfl
theorem YM:Av Tryz.prog 136=true:=by kernel_rfl
theorem VK:Av Tryz.prog 16=true:=by kernel_rfl
theorem Ag4:Av Tryz.prog 161=true:=by kernel_rfl
theorem Ag5:Av Tryz.prog 162=true:=by kernel_rfl
theorem Ag6:Av Tryz.prog 163=true:=by kernel_rfl
theorem Ag7:Av Tryz.prog 164=true:=by kernel_rfl
theorem Ag8:Av Tryz.prog 165=true:=by kernel_rfl
theorem UH:Av Tryz.prog 166=true:=by kernel_rfl
theorem UI:Av Tryz.prog 167=true:=by kernel_rfl
theorem Ag9:Av Tryz.prog 168=true:=by kernel_rfl
theorem Aha:Av Tryz.prog 169=true:=by kernel_rfl
theorem Oz:Av Tryz.prog 17=true:=by kernel_rfl
theorem Ahb:Av Tryz.prog 170=true:=by kernel_rfl
theorem Ahc:Av Tryz.prog 171=true:=by kernel_rfl
theorem Ahd:Av Tryz.prog 172=true:=by kernel_rfl
theorem Ahe:Av Tryz.prog 173=true:=by kernel_rfl
theorem Ahf:Av Tryz.prog 174=true:=by kernel_rfl
theorem Ahg:Av Tryz.prog 175=true:=by kernel_rfl
theorem YN:Av Tryz.prog 176=true:=by kernel_rfl
theorem UJ:Av Tryz.prog 177=true:=by kernel_rfl
theorem Ahh:Av Tryz.prog 178=true:=by kernel_rfl
theorem MB:Av Tryz.prog 179=true:=by kernel_rfl
theorem KN:Av Tryz.prog 18=true:=by kernel_rfl
theorem Rz:Av Tryz.prog 180=true:=by kernel_rfl
theorem Ahi:Av Tryz.prog 181=true:=by kernel_rfl
theorem YO:Av Tryz.prog 182=true:=by kernel_rfl
theorem Ahj:Av Tryz.prog 183=true:=by kernel_rfl
theorem Ahk:Av Tryz.prog 184=true:=by kernel_rfl
theorem Ahl:Av Tryz.prog 185=true:=by kernel_rfl
theorem Ahm:Av Tryz.prog 186=true:=by kernel_rfl
theorem YP:Av Tryz.prog 187=true:=by kernel_rfl
theorem YQ:Av Tryz.prog 191=true:=by kernel_rfl
theorem YR:Av Tryz.prog 192=true:=by kernel_rfl
theorem Ahn:Av Tryz.prog 201=true:=by kernel_rfl
theorem Aho:Av Tryz.prog 203=true:=by kernel_rfl
theorem R5:Av Tryz.prog 204=true:=by kernel_rfl
theorem UK:Av Tryz.prog 205=true:=by kernel_rfl
theorem Ahp:Av Tryz.prog 206=true:=by kernel_rfl
theorem Ahq:Av Tryz.prog 207=true:=by kernel_rfl
theorem Ahr:Av Tryz.prog 208=true:=by kernel_rfl
theorem R6:Av Tryz.prog 209=true:=by kernel_rfl
theorem YS:Av Tryz.prog 210=true:=by kernel_rfl
theorem Ahs:Av Tryz.prog 211=true:=by kernel_rfl
theorem Aht:Av Tryz.prog 212=true:=by kernel_rfl
theorem Ahu:Av Tryz.prog 213=true:=by kernel_rfl
theorem Ahv:Av Tryz.prog 214=true:=by kernel_rfl
theorem Ahw:Av Tryz.prog 215=true:=by kernel_rfl
theorem Ahx:Av Tryz.prog 216=true:=by kernel_rfl
theorem Ahy:Av Tryz.prog 217=true:=by kernel_rfl
theorem Ahz:Av Tryz.prog 218=true:=by kernel_rfl
theorem Ah0:Av Tryz.prog 219=true:=by kernel_rfl
theorem Ah1:Av Tryz.prog 220=true:=by kernel_rfl
theorem Ah2:Av Tryz.prog 221=true:=by kernel_rfl
theorem Ah3:Av Tryz.prog 222=true:=by kernel_rfl
theorem Ah4:Av Tryz.prog 223=true:=by kernel_rfl
theorem Ah5:Av Tryz.prog 224=true:=by kernel_rfl
theorem Ah6:Av Tryz.prog 225=true:=by kernel_rfl
theorem YT:Av Tryz.prog 226=true:=by kernel_rfl
theorem YU:Av Tryz.prog 230=true:=by kernel_rfl
theorem Ah7:Av Tryz.prog 231=true:=by kernel_rfl
theorem Ah8:Av Tryz.prog 232=true:=by kernel_rfl
theorem Ah9:Av Tryz.prog 233=true:=by kernel_rfl
theorem Aia:Av Tryz.prog 234=true:=by kernel_rfl
theorem Aib:Av Tryz.prog 235=true:=by kernel_rfl
theorem FU:Av Tryz.prog 236=true:=by kernel_rfl
theorem Aic:Av Tryz.prog 237=true:=by kernel_rfl
theorem Aid:Av Tryz.prog 238=true:=by kernel_rfl
theorem Aie:Av Tryz.prog 240=true:=by kernel_rfl
theorem Aif:Av Tryz.prog 241=true:=by kernel_rfl
theorem Aig:Av Tryz.prog 242=true:=by kernel_rfl
theorem Aih:Av Tryz.prog 243=true:=by kernel_rfl
theorem Aii:Av Tryz.prog 244=true:=by kernel_rfl
theorem Aij:Av Tryz.prog 245=true:=by kernel_rfl
theorem Aik:Av Tryz.prog 246=true:=by kernel_rfl
theorem YV:Av Tryz.prog 247=true:=by kernel_rfl
theorem UL:Av Tryz.prog 248=true:=by kernel_rfl
theorem Ail:Av Tryz.prog 249=true:=by kernel_rfl
theorem Aim:Av Tryz.prog 250=true:=by kernel_rfl
theorem R8:Av Tryz.prog 251=true:=by kernel_rfl
theorem Ain:Av Tryz.prog 252=true:=by kernel_rfl
theorem UM:Av Tryz.prog 253=true:=by kernel_rfl
theorem Aio:Av Tryz.prog 254=true:=by kernel_rfl
theorem YW:Av Tryz.prog 256=true:=by kernel_rfl
theorem Aip:Av Tryz.prog 257=true:=by kernel_rfl
theorem Aiq:Av Tryz.prog 258=true:=by kernel_rfl
theorem UN:Av Tryz.prog 259=true:=by kernel_rfl
theorem YX:Av Tryz.prog 260=true:=by kernel_rfl
theorem YY:Av Tryz.prog 261=true:=by kernel_rfl
theorem YZ:Av Tryz.prog 262=true:=by kernel_rfl
theorem Air:Av Tryz.prog 263=true:=by kernel_rfl
theorem Za:Av Tryz.prog 264=true:=by kernel_rfl
theorem Ais:Av Tryz.prog 265=true:=by kernel_rfl
theorem Ait:Av Tryz.prog 266=true:=by kernel_rfl
theorem Aiu:Av Tryz.prog 267=true:=by kernel_rfl
theorem Aiv:Av Tryz.prog 268=true:=by kernel_rfl
theorem Aiw:Av Tryz.prog 269=true:=by kernel_rfl
theorem Aix:Av Tryz.prog 270=true:=by kernel_rfl
theorem Zb:Av Tryz.prog 271=true:=by kernel_rfl
theorem Zc:Av Tryz.prog 272=true:=by kernel_rfl
theorem Aiy:Av Tryz.prog 273=true:=by kernel_rfl
theorem Aiz:Av Tryz.prog 274=true:=by kernel_rfl
theorem Ai0:Av Tryz.prog 275=true:=by kernel_rfl
theorem Ai1:Av Tryz.prog 276=true:=by kernel_rfl
theorem UO:Av Tryz.prog 277=true:=by kernel_rfl
theorem Zd:Av Tryz.prog 278=true:=by kernel_rfl
theorem Ze:Av Tryz.prog 279=true:=by kernel_rfl
theorem Ai2:Av Tryz.prog 280=true:=by kernel_rfl
theorem Ai3:Av Tryz.prog 281=true:=by kernel_rfl
theorem Ai4:Av Tryz.prog 282=true:=by kernel_rfl
theorem Zf:Av Tryz.prog 283=true:=by kernel_rfl
theorem Ai5:Av Tryz.prog 284=true:=by kernel_rfl
theorem Ai6:Av Tryz.prog 285=true:=by kernel_rfl
theorem UP:Av Tryz.prog 286=true:=by kernel_rfl
theorem ca_30:Av Tryz.prog 30=true:=by kernel_rfl
theorem LD:Av Tryz.prog 34=true:=by kernel_rfl
theorem Tl:Av Tryz.prog 35=true:=by kernel_rfl
theorem Afq:Av Tryz.prog 36=true:=by kernel_rfl
theorem Afr:Av Tryz.prog 37=true:=by kernel_rfl
theorem VL:Av Tryz.prog 38=true:=by kernel_rfl
theorem Afs:Av Tryz.prog 39=true:=by kernel_rfl
theorem ca_46:Av Tryz.prog 46=true:=by kernel_rfl
theorem ca_47:Av Tryz.prog 47=true:=by kernel_rfl
theorem ca_48:Av Tryz.prog 48=true:=by kernel_rfl
theorem Zg:Av Tryz.prog 49=true:=by kernel_rfl
theorem LF:Av Tryz.prog 50=true:=by kernel_rfl
theorem ca_51:Av Tryz.prog 51=true:=by kernel_rfl
theorem ca_52:Av Tryz.prog 52=true:=by kernel_rfl
theorem Aft:Av Tryz.prog 53=true:=by kernel_rfl
theorem ca_54:Av Tryz.prog 54=true:=by kernel_rfl
theorem ca_55:Av Tryz.prog 55=true:=by kernel_rfl
theorem ca_56:Av Tryz.prog 56=true:=by kernel_rfl
theorem ca_57:Av Tryz.prog 57=true:=by kernel_rfl
theorem ca_58:Av Tryz.prog 58=true:=by kernel_rfl
theorem ca_59:Av Tryz.prog 59=true:=by kernel_rfl
theorem ca_60:Av Tryz.prog 60=true:=by kernel_rfl
theorem ca_61:Av Tryz.prog 61=true:=by kernel_rfl
theorem ca_62:Av Tryz.prog 62=true:=by kernel_rfl
theorem Afu:Av Tryz.prog 63=true:=by kernel_rfl
theorem ca_64:Av Tryz.prog 64=true:=by kernel_rfl
theorem ca_65:Av Tryz.prog 65=true:=by kernel_rfl
theorem ca_66:Av Tryz.prog 66=true:=by kernel_rfl
theorem ca_67:Av Tryz.prog 67=true:=by kernel_rfl
theorem ca_78:Av Tryz.prog 78=true:=by kernel_rfl
theorem Afv:Av Tryz.prog 79=true:=by kernel_rfl
theorem ca_80:Av Tryz.prog 80=true:=by kernel_rfl
theorem VM:Av Tryz.prog 81=true:=by kernel_rfl
theorem VN:Av Tryz.prog 87=true:=by kernel_rfl
theorem ca_88:Av Tryz.prog 88=true:=by kernel_rfl
theorem ca_89:Av Tryz.prog 89=true:=by kernel_rfl
theorem Afw:Av Tryz.prog 98=true:=by kernel_rfl
theorem ca_99:Av Tryz.prog 99=true:=by kernel_rfl
theorem Hn:C7 Tryz.prog 22=some 40:=by kernel_rfl
theorem OB:C7 Tryz.prog 248=some 223:=by kernel_rfl
theorem UQ:C7 Tryz.prog 256=some 23:=by kernel_rfl
theorem Dg:C7 Tryz.prog 26=some 43:=by kernel_rfl
theorem CK:C7 Tryz.prog 27=some 67:=by kernel_rfl
theorem Nd:C7 Tryz.prog 29=some 55:=by kernel_rfl
theorem MC:C7 Tryz.prog 292=some 300:=by kernel_rfl
theorem Lh:C7 Tryz.prog 300=some 299:=by kernel_rfl
theorem Dt:C7 Tryz.prog 316=some 321:=by kernel_rfl
theorem Bg:C7 Tryz.prog 35=some 2:=by kernel_rfl
theorem Bx:C7 Tryz.prog 48=some 28:=by kernel_rfl
theorem Ds:C7 Tryz.prog 49=some 59:=by kernel_rfl
theorem Nf:C7 Tryz.prog 80=some 37:=by kernel_rfl
theorem Qt:C7 Tryz.prog 87=some 32:=by kernel_rfl
theorem Fu:C7 Tryz.prog 94=some 3:=by kernel_rfl
theorem F3:BG Tryz.prog 106 0=some 0:=by kernel_rfl
theorem EH:BG Tryz.prog 106 1=some 1:=by kernel_rfl
theorem IF:BG Tryz.prog 106 2=some 2:=by kernel_rfl
theorem JT:BG Tryz.prog 106 3=some 3:=by kernel_rfl
theorem Ez:BG Tryz.prog 162 0=some 0:=by kernel_rfl
theorem DG:BG Tryz.prog 165 0=some 0:=by kernel_rfl
theorem JU:BG Tryz.prog 165 1=some 1:=by kernel_rfl
theorem OC:BG Tryz.prog 168 0=some 0:=by kernel_rfl
theorem IG:BG Tryz.prog 168 1=some 32:=by kernel_rfl
theorem Fb:BG Tryz.prog 168 2=some 33:=by kernel_rfl
theorem Zh:BG Tryz.prog 223 0=some 0:=by kernel_rfl
theorem Zi:BG Tryz.prog 223 1=some 1:=by kernel_rfl
theorem G7:BG Tryz.prog 254 0=some 0:=by kernel_rfl
theorem EI:BG Tryz.prog 254 1=some 2:=by kernel_rfl
theorem EJ:BG Tryz.prog 254 2=some 3:=by kernel_rfl
theorem G8:BG Tryz.prog 254 3=some 4:=by kernel_rfl
theorem OD:BG Tryz.prog 254 4=some 5:=by kernel_rfl
theorem LG:BG Tryz.prog 294 0=some 0:=by kernel_rfl
theorem El:BG Tryz.prog 294 1=some 1:=by kernel_rfl
theorem Ho:BG Tryz.prog 294 2=some 2:=by kernel_rfl
theorem JV:BG Tryz.prog 294 3=some 3:=by kernel_rfl
theorem OE:BG Tryz.prog 299 0=some 0:=by kernel_rfl
theorem Tm:BG Tryz.prog 299 1=some 1:=by kernel_rfl
theorem F5:BG Tryz.prog 299 2=some 2:=by kernel_rfl
theorem OG:BG Tryz.prog 299 3=some 3:=by kernel_rfl
theorem C0:BG Tryz.prog 318 0=some 0:=by kernel_rfl
theorem JW:BG Tryz.prog 321 0=some 0:=by kernel_rfl
theorem OH:BG Tryz.prog 321 1=some 1:=by kernel_rfl
theorem R9:BG Tryz.prog 32 0=some 0:=by kernel_rfl
theorem Em:BG Tryz.prog 32 1=some 1:=by kernel_rfl
theorem Fk:BG Tryz.prog 32 2=some 2:=by kernel_rfl
theorem Adc:BG Tryz.prog 32 3=some 3:=by kernel_rfl
theorem VO:BG Tryz.prog 32 4=some 4:=by kernel_rfl
theorem Add:BG Tryz.prog 32 5=some 5:=by kernel_rfl
theorem LH:BG Tryz.prog 37 0=some 0:=by kernel_rfl
theorem RB:BG Tryz.prog 40 0=some 0:=by kernel_rfl
theorem FV:BG Tryz.prog 40 1=some 1:=by kernel_rfl
theorem RC:BG Tryz.prog 40 2=some 2:=by kernel_rfl
theorem ND:BG Tryz.prog 40 3=some 3:=by kernel_rfl
theorem Ade:BG Tryz.prog 40 4=some 4:=by kernel_rfl
theorem LI:BG Tryz.prog 40 5=some 5:=by kernel_rfl
theorem Ky:BG Tryz.prog 40 6=some 6:=by kernel_rfl
theorem DW:BG Tryz.prog 43 0=some 0:=by kernel_rfl
theorem GW:BG Tryz.prog 43 1=some 1:=by kernel_rfl
theorem Fl:BG Tryz.prog 51 0=some 0:=by kernel_rfl
theorem Dv:BG Tryz.prog 51 1=some 1:=by kernel_rfl
theorem Jo:BG Tryz.prog 53 0=some 0:=by kernel_rfl
theorem LJ:BG Tryz.prog 53 1=some 1:=by kernel_rfl
theorem LK:BG Tryz.prog 55 0=some 0:=by kernel_rfl
theorem NE:BG Tryz.prog 55 1=some 1:=by kernel_rfl
theorem VP:BG Tryz.prog 55 2=some 2:=by kernel_rfl
theorem Gw:BG Tryz.prog 55 3=some 3:=by kernel_rfl
theorem F9:BG Tryz.prog 55 4=some 4:=by kernel_rfl
theorem Gx:BG Tryz.prog 55 5=some 6:=by kernel_rfl
theorem FW:BG Tryz.prog 59 0=some 0:=by kernel_rfl
theorem FX:BG Tryz.prog 59 1=some 1:=by kernel_rfl
theorem EU:BG Tryz.prog 59 2=some 2:=by kernel_rfl
theorem GX:BG Tryz.prog 59 3=some 3:=by kernel_rfl
theorem Gy:BG Tryz.prog 67 0=some 0:=by kernel_rfl
theorem Gz:BG Tryz.prog 67 1=some 1:=by kernel_rfl
theorem Ih:BG Tryz.prog 67 2=some 2:=by kernel_rfl
theorem Eo:BG Tryz.prog 67 3=some 3:=by kernel_rfl
theorem LM:BG Tryz.prog 67 4=some 4:=by kernel_rfl
theorem RG:BG Tryz.prog 67 5=some 5:=by kernel_rfl
theorem Ii:BG Tryz.prog 67 6=some 6:=by kernel_rfl
theorem Bs:Tryz.prog.follows .mixedOrders=true:=by kernel_rfl
theorem Fx:L6 Tryz.prog 163=some (28,67):=by kernel_rfl
theorem Zj:Dk Tryz.prog 106=some [(0,1),(1,1),(2,1),(3,1)]:=by kernel_rfl
theorem Zk:Dk Tryz.prog 162=some [(0,1)]:=by kernel_rfl
theorem Zl:Dk Tryz.prog 165=some [(0,1),(1,1)]:=by kernel_rfl
theorem Zm:Dk Tryz.prog 168=some [(0,32),(32,1),(33,1)]:=by kernel_rfl
theorem OI:Dk Tryz.prog 223=some [(0,1),(1,1)]:=by kernel_rfl
theorem Ai7:Dk Tryz.prog 254=some [(0,2),(2,1),(3,1),(4,1),(5,1)]:=by kernel_rfl
theorem Ai8:Dk Tryz.prog 294=some [(0,1),(1,1),(2,1),(3,1)]:=by kernel_rfl
theorem Zn:Dk Tryz.prog 299=some [(0,1),(1,1),(2,1),(3,1)]:=by kernel_rfl
theorem Ai9:Dk Tryz.prog 318=some [(0,1)]:=by kernel_rfl
theorem Afx:Dk Tryz.prog 32=some [(0,1),(1,1),(2,1),(3,1),(4,1),(5,1),(6,1)]:=by kernel_rfl
theorem Aja:Dk Tryz.prog 321=some [(0,1),(1,1)]:=by kernel_rfl
theorem Zo:Dk Tryz.prog 37=some [(0,1),(1,1)]:=by kernel_rfl
theorem JA:Dk Tryz.prog 40=some [(0,1),(1,1),(2,1),(3,1),(4,1),(5,1),(6,1)]:=by kernel_rfl
theorem Afy:Dk Tryz.prog 43=some [(0,1),(1,1)]:=by kernel_rfl
theorem pl_51:Dk Tryz.prog 51=some [(0,1),(1,1)]:=by kernel_rfl
theorem Afz:Dk Tryz.prog 53=some [(0,1),(1,1)]:=by kernel_rfl
theorem VQ:Dk Tryz.prog 55=some [(0,1),(1,1),(2,1),(3,1),(4,2),(6,2)]:=by kernel_rfl
theorem Zp:Dk Tryz.prog 59=some [(0,1),(1,1),(2,1),(3,1)]:=by kernel_rfl
theorem pl_67:Dk Tryz.prog 67=some [(0,1),(1,1),(2,1),(3,1),(4,1),(5,1),(6,1)]:=by kernel_rfl
theorem Zq:Cd Tryz.prog 111=some 1:=by kernel_rfl
theorem Ajb:Cd Tryz.prog 113=some 16:=by kernel_rfl
theorem B6:Cd Tryz.prog 2=some 1:=by kernel_rfl
theorem MD:Cd Tryz.prog 223=some 2:=by kernel_rfl
theorem Af0:Cd Tryz.prog 23=some 1:=by kernel_rfl
theorem sz_26:Cd Tryz.prog 26=some 1:=by kernel_rfl
theorem Bp:Cd Tryz.prog 28=some 1:=by kernel_rfl
theorem RJ:Cd Tryz.prog 286=some 1:=by kernel_rfl
theorem Ajc:Cd Tryz.prog 291=some 1:=by kernel_rfl
theorem Hr:Cd Tryz.prog 299=some 4:=by kernel_rfl
theorem FY:Cd Tryz.prog 3=some 1:=by kernel_rfl
theorem ME:Cd Tryz.prog 300=some 1:=by kernel_rfl
theorem Zr:Cd Tryz.prog 316=some 1:=by kernel_rfl
theorem DZ:Cd Tryz.prog 32=some 7:=by kernel_rfl
theorem CH:Cd Tryz.prog 321=some 2:=by kernel_rfl
theorem Af1:Cd Tryz.prog 35=some 1:=by kernel_rfl
theorem Hs:Cd Tryz.prog 37=some 2:=by kernel_rfl
theorem Xg:Cd Tryz.prog 4=some 1:=by kernel_rfl
theorem IH:Cd Tryz.prog 40=some 7:=by kernel_rfl
theorem Dx:Cd Tryz.prog 43=some 2:=by kernel_rfl
theorem Af2:Cd Tryz.prog 48=some 1:=by kernel_rfl
theorem Af3:Cd Tryz.prog 49=some 1:=by kernel_rfl
theorem CL:Cd Tryz.prog 51=some 2:=by kernel_rfl
theorem Ng:Cd Tryz.prog 53=some 2:=by kernel_rfl
theorem Dh:Cd Tryz.prog 55=some 8:=by kernel_rfl
theorem Dp:Cd Tryz.prog 59=some 4:=by kernel_rfl
theorem Ci:Cd Tryz.prog 67=some 7:=by kernel_rfl
theorem sz_80:Cd Tryz.prog 80=some 1:=by kernel_rfl
theorem Ix:Tryz.prog.underlying 101=some (.pointer 165):=by kernel_rfl
theorem MF:Tryz.prog.underlying 103=some (.pointer 168):=by kernel_rfl
theorem Xh:Tryz.prog.underlying 2=some (.int .i64):=by kernel_rfl
theorem OJ:Tryz.prog.underlying 24=some (.pointer 106):=by kernel_rfl
theorem RK:Tryz.prog.underlying 247=some (.int .u64):=by kernel_rfl
theorem EV:Tryz.prog.underlying 28=some (.int .u64):=by kernel_rfl
theorem Ajd:Tryz.prog.underlying 286=some (.int .u64):=by kernel_rfl
theorem OM:Tryz.prog.underlying 3=some (.int .i64):=by kernel_rfl
theorem UR:Tryz.prog.underlying 301=some (.pointer 318):=by kernel_rfl
theorem un_4:Tryz.prog.underlying 4=some (.bool):=by kernel_rfl
theorem un_5:Tryz.prog.underlying 5=some (.int .u8):=by kernel_rfl
theorem un_9:Tryz.prog.underlying 9=some (.string):=by kernel_rfl
theorem Nh:Tryz.prog.underlying 99=some (.pointer 162):=by kernel_rfl
theorem Zs:Ce Tryz.prog 106=some ([.pointer none,.pointer none,.pointer none,.int .i64 0]):=by kernel_rfl
theorem Zt:Ce Tryz.prog 113=some (List.replicate 16 (.nilFunc:Value)):=by kernel_rfl
theorem Zu:Ce Tryz.prog 162=some ([.slice none 0 0]):=by kernel_rfl
theorem Zv:Ce Tryz.prog 165=some ([.map none,.int .u64 0]):=by kernel_rfl
theorem Zw:Ce Tryz.prog 168=some ([.int .u64 0,.int .i64 0,.bool false,.slice none 0 0,.int .i64 0,.slice none 0 0,.slice none 0 0,.slice none 0 0,.int .u64 0,.int .i64 0,.bool false,.slice none 0 0,.int .i64 0,.slice none 0 0,.slice none 0 0,.slice none 0 0,.int .u64 0,.int .i64 0,.bool false,.slice none 0 0,.int .i64 0,.slice none 0 0,.slice none 0 0,.slice none 0 0,.int .u64 0,.int .i64 0,.bool false,.slice none 0 0,.int .i64 0,.slice none 0 0,.slice none 0 0,.slice none 0 0,.int .u64 0,.int .u64 0]):=by kernel_rfl
theorem EK:Ce Tryz.prog 2=some ([.int .i64 0]):=by kernel_rfl
theorem Jp:Ce Tryz.prog 223=some ([.int .i64 0,.nilFunc]):=by kernel_rfl
theorem zc_23:Ce Tryz.prog 23=some ([.nilFunc]):=by kernel_rfl
theorem Aje:Ce Tryz.prog 254=some ([.int .i64 0,.slice none 0 0,.slice none 0 0,.slice none 0 0,.slice none 0 0,.int .i64 0]):=by kernel_rfl
theorem ON:Ce Tryz.prog 28=some ([.int .u64 0]):=by kernel_rfl
theorem Ajf:Ce Tryz.prog 286=some ([.int .u64 0]):=by kernel_rfl
theorem Ajg:Ce Tryz.prog 291=some ([.pointer none]):=by kernel_rfl
theorem Ajh:Ce Tryz.prog 294=some ([.slice none 0 0,.slice none 0 0,.slice none 0 0,.slice none 0 0]):=by kernel_rfl
theorem JX:Ce Tryz.prog 299=some ([.int .i64 0,.int .i64 0,.int .i64 0,.int .i64 0]):=by kernel_rfl
theorem US:Ce Tryz.prog 3=some ([.int .i64 0]):=by kernel_rfl
theorem Aji:Ce Tryz.prog 300=some ([.slice none 0 0]):=by kernel_rfl
theorem Ajj:Ce Tryz.prog 318=some ([.slice none 0 0]):=by kernel_rfl
theorem GM:Ce Tryz.prog 32=some ([.int .i64 0,.slice none 0 0,.slice none 0 0,.int .u64 0,.slice none 0 0,.int .u64 0,.slice none 0 0]):=by kernel_rfl
theorem UT:Ce Tryz.prog 321=some ([.int .i64 0,.int .i64 0]):=by kernel_rfl
theorem Af4:Ce Tryz.prog 35=some ([.slice none 0 0]):=by kernel_rfl
theorem KO:Ce Tryz.prog 37=some ([.int .i64 0,.slice none 0 0]):=by kernel_rfl
theorem zc_4:Ce Tryz.prog 4=some ([.bool false]):=by kernel_rfl
theorem GN:Ce Tryz.prog 40=some ([.int .u8 0,.int .i64 0,.int .i64 0,.int .i64 0,.int .i64 0,.int .i64 0,.int .u64 0]):=by kernel_rfl
theorem II:Ce Tryz.prog 43=some ([.int .i64 0,.int .i64 0]):=by kernel_rfl
theorem Ni:Ce Tryz.prog 51=some ([.int .i64 0,.slice none 0 0]):=by kernel_rfl
theorem VR:Ce Tryz.prog 53=some ([.slice none 0 0,.slice none 0 0]):=by kernel_rfl
theorem Gg:Ce Tryz.prog 55=some ([.int .u64 0,.int .i64 0,.bool false,.slice none 0 0,.int .i64 0,.slice none 0 0,.slice none 0 0,.slice none 0 0]):=by kernel_rfl
theorem Ht:Ce Tryz.prog 59=some ([.int .i64 0,.int .i64 0,.int .i64 0,.int .i64 0]):=by kernel_rfl
theorem Eu:Ce Tryz.prog 67=some ([.int .u64 0,.int .i64 0,.int .i64 0,.int .i64 0,.int .i64 0,.int .i64 0,.bool false]):=by kernel_rfl
theorem Af5:Ce Tryz.prog 80=some ([.slice none 0 0]):=by kernel_rfl
theorem OQ:(Tryz.prog.info? 67).bind (·.zero)=some (.agg #[.int .u64 0,.int .i64 0,.int .i64 0,.int .i64 0,.int .i64 0,.int .i64 0,.bool false]):=by kernel_rfl
end Go.Proofs.YtdagmpmdcgedcaaGreat
namespace Go.Proofs.YtdagmpmdcgedcaaGreat
open Go.GV
abbrev Ar:=Nat × Nat × Int
def upd (p:Nat→Int) (v:Nat) (x:Int):Nat→Int:=fun u=>if u=v then x else p u
def IJ (p:Nat→Int) (a:Ar):Nat→Int:=if p a.1+a.2.2<p a.2.1 then upd p a.2.1 (p a.1+a.2.2) else p
def Fea (A:List Ar) (q:Nat→Int):Prop:=∀ a∈A,q a.2.1≤q a.1+a.2.2
def step0 (A:List Ar) (d:Nat→Int) (v:Nat):Int:=A.foldl (fun m a=>if a.2.1=v then min m (d a.1+a.2.2) else m) (d v)
def DD (A:List Ar):Nat→Nat→Int
 | 0,_=>0
 | r+1,v=>step0 A (DD A r) v
theorem Li {d:Nat→Int} {v:Nat}:∀ {A:List Ar} {m:Int},A.foldl (fun m a=>if a.2.1=v then min m (d a.1+a.2.2) else m) m≤m
 | [],m=>Int.le_refl _
 | a::A,m=>by
  rw [List.foldl_cons];refine Int.le_trans Li ?_
  split
  ·exact Int.min_le_left ..
  ·exact Int.le_refl _
theorem Nj {d:Nat→Int} {v:Nat}:∀ {A:List Ar} {m:Int} {a:Ar},a∈A→a.2.1=v→A.foldl (fun m a=>if a.2.1=v then min m (d a.1+a.2.2) else m) m≤d a.1+a.2.2
 | b::A,m,a,h,hv=>by
  rw [List.foldl_cons]
  rcases List.mem_cons.1 h with rfl | h
  ·refine Int.le_trans Li ?_;rw [if_pos hv];exact Int.min_le_right ..
  ·exact Nj h hv
theorem OT {d:Nat→Int} {v:Nat}:∀ {A:List Ar} {m:Int},A.foldl (fun m a=>if a.2.1=v then min m (d a.1+a.2.2) else m) m=m∨∃ a∈A,a.2.1=v∧A.foldl (fun m a=>if a.2.1=v then min m (d a.1+a.2.2) else m) m=d a.1+a.2.2
 | [],m => .inl rfl
 | b::A,m=>by
  rw [List.foldl_cons]
  rcases OT (d:=d) (v:=v) (A:=A) (m:=if b.2.1=v then min m (d b.1+b.2.2) else m) with h | ⟨a,ha,hv,h⟩
  ·rw [h]
   by_cases hb:b.2.1=v
   ·rw [if_pos hb]
    rcases Int.le_total m (d b.1+b.2.2) with h5 | h5
    ·exact .inl (Int.min_eq_left h5)
    ·exact .inr ⟨b,List.mem_cons_self ..,hb,Int.min_eq_right h5⟩
   ·rw [if_neg hb]; exact .inl rfl
  ·exact .inr ⟨a,List.mem_cons_of_mem _ ha,hv,h⟩
theorem Zx (A:List Ar) (r v:Nat):DD A (r+1) v≤DD A r v:=Li
theorem LN (A:List Ar) (v:Nat):∀ {r s:Nat},r≤s→DD A s v≤DD A r v
 | r,s,h=>by
  obtain ⟨k,rfl⟩:=Nat.exists_eq_add_of_le h
  induction k with
  | zero=>exact Int.le_refl _
  | succ k ih=>exact Int.le_trans (Zx A (r+k) v) (ih (by omega))
theorem Zy {A:List Ar} {a:Ar} (h:a∈A) (r:Nat):DD A (r+1) a.2.1≤DD A r a.1+a.2.2:=Nj h rfl
theorem VS (A:List Ar) (r v:Nat):DD A (r+1) v=DD A r v∨∃ a∈A,a.2.1=v∧DD A (r+1) v=DD A r a.1+a.2.2:=OT
theorem Tn {A:List Ar}:∀ {r v:Nat},DD A (r+1) v<DD A r v→∃ x:Nat→Nat,x (r+1)=v∧∀ j,j≤r→DD A (j+1) (x (j+1))<DD A j (x (j+1))∧∃ a∈A,a.1=x j∧a.2.1=x (j+1)∧DD A (j+1) (x (j+1))=DD A j (x j)+a.2.2
 | 0,v,h=>by
  rcases VS A 0 v with h1 | ⟨a,ha,hv,h1⟩
  ·omega
  ·refine ⟨fun j=>if j=0 then a.1 else v,rfl,fun j hj=>?_⟩;obtain rfl:j=0:=by omega
   exact ⟨h,a,ha,rfl,hv,h1⟩
 | r+1,v,h=>by
  rcases VS A (r+1) v with h1 | ⟨a,ha,hv,h1⟩
  ·omega
  ·have h2:=Zx A r a.1;have h3:=Zy ha r;rw [hv] at h3;have h4:DD A (r+1) a.1<DD A r a.1:=by omega
   obtain ⟨x,hx,hj⟩:=Tn h4;obtain ⟨y,hy1,hy2⟩:∃ y:Nat→Nat,y (r+2)=v∧∀ j,j≠r+2→y j=x j:=⟨fun j=>if j=r+2 then v else x j,if_pos rfl,fun j h=>if_neg h⟩;refine ⟨y,hy1,fun j hjr=>?_⟩
   by_cases h5:j=r+1
   ·subst h5;rw [show r+1+1=r+2 from rfl,hy1,hy2 _ (by omega)];exact ⟨h,a,ha,hx.symm,hv,by rw [hx]; exact h1⟩
   ·rw [hy2 _ (by omega),hy2 _ (by omega)];exact hj j (by omega)
theorem LO:∀ (n:Nat) (l:List Nat),l.Nodup→(∀ x∈l,x<n)→l.length≤n
 | 0,l,_,h=>by
  cases l with
  | nil=>exact Nat.le_refl _
  | cons x l=>exact absurd (h x (by simp)) (Nat.not_lt_zero _)
 | n+1,l,hd,h=>by
  have h1:=LO n (l.filter (· != n)) (hd.filter _) (fun x hx=>by
   have:=h x (List.mem_filter.1 hx).1;have h2:=(List.mem_filter.1 hx).2
   simp at h2; omega)
  have h2:l.length=(l.filter (· != n)).length+l.count n:=by
   clear hd h h1
   induction l with
   | nil=>rfl
   | cons x l ih =>
    rw [List.count_cons,List.filter_cons]
    by_cases hx:x=n
    ·subst hx; simp; omega
    ·simp [hx]; omega
  have h3:l.count n≤1:=List.nodup_iff_count.1 hd n;omega
theorem Zz {n:Nat} {x:Nat→Nat} (h:∀ j,j≤n→x j<n):∃ i j,i<j∧j≤n∧x i=x j:=by
 refine Classical.byContradiction fun hn=>?_
 have hd:((List.range (n+1)).map x).Nodup:=by
  rw [List.nodup_iff_pairwise_ne,List.pairwise_map];refine List.Pairwise.imp_of_mem (R:=fun a b=>a<b) (fun {a b} ha hb hab he=>hn ⟨a,b,hab,?_,he⟩) List.pairwise_lt_range;have:=List.mem_range.1 hb; omega
 have h1:=LO n _ hd fun y hy=>by
  obtain ⟨j,hj,rfl⟩:=List.mem_map.1 hy;exact h j (by have:=List.mem_range.1 hj; omega)
 simp at h1;omega
theorem Ajk {A:List Ar} {n:Nat} {q:Nat→Int} (hq:Fea A q) (hA:∀ a∈A,a.1<n∧a.2.1<n) (v:Nat):DD A (n+1) v=DD A n v:=by
 have h1:=Zx A n v;refine Classical.byContradiction fun hne=>?_;obtain ⟨x,-,hx⟩:=Tn (show DD A (n+1) v<DD A n v by omega)
 obtain ⟨i,j,hij,hjn,he⟩:=Zz (n:=n) (x:=fun j=>x (j+1)) (fun j hj=>by
  obtain ⟨_,a,ha,_,h2,_⟩:=hx j hj
  rw [← h2]; exact (hA a ha).2)
 have hmono:∀ k,i+k≤n→DD A (i+1) (x (i+1)) - q (x (i+1))≤DD A (i+k+1) (x (i+k+1)) - q (x (i+k+1)):=by
  intro k
  induction k with
  | zero=>intro _; exact Int.le_refl _
  | succ k ih =>
   intro hk;have h2:=ih (by omega);obtain ⟨_,a,ha,h3,h4,h5⟩:=hx (i+k+1) hk;have h6:=hq a ha;rw [h3,h4] at h6;show _≤DD A (i+(k+1)+1) (x (i+(k+1)+1)) - q (x (i+(k+1)+1));rw [show i+(k+1)+1=i+k+1+1 by omega,h5];omega
 have h2:=hmono (j - i) (by omega);rw [show i+(j - i)+1=j+1 by omega,← he] at h2;have h3:=(hx j hjn).1;rw [← he] at h3;have h4:=LN A (x (i+1)) (show i+1≤j by omega);omega
theorem UU {A:List Ar} {n:Nat} {q:Nat→Int} (hq:Fea A q) (hA:∀ a∈A,a.1<n∧a.2.1<n):Fea A (DD A n):=fun a ha=>by
 have h1:=Zy ha n;rw [Ajk hq hA] at h1;exact h1
theorem VT {A:List Ar} {m:Int} (h0:0≤m) (hA:∀ a∈A,-m≤a.2.2):∀ (r v:Nat),-(r*m)≤DD A r v
 | 0,v=>by simp [DD]
 | r+1,v=>by
  have e:((r+1:Nat):Int)*m=r*m+m:=by rw [Int.natCast_add,Int.add_mul]; simp
  rcases VS A r v with h | ⟨a,ha,hv,h⟩
  ·rw [h,e]; have:=VT h0 hA r v; omega
  ·rw [h,e]; have:=VT h0 hA r a.1; have:=hA a ha; omega
theorem VU (p:Nat→Int) (a:Ar) (v:Nat):IJ p a v≤p v:=by
 unfold IJ
 split
 ·unfold upd
  split
  ·rename_i h1 h2; subst h2; omega
  ·exact Int.le_refl _
 ·exact Int.le_refl _
theorem Adf {p f:Nat→Int} {a:Ar} (hf:f a.2.1≤f a.1+a.2.2) (h:∀ v,f v≤p v) (v:Nat):f v≤IJ p a v:=by
 unfold IJ
 split
 ·unfold upd
  split
  ·rename_i h1 h2; subst h2; have:=h a.1; omega
  ·exact h v
 ·exact h v
theorem Z0 (p:Nat→Int) (a:Ar):IJ p a a.2.1≤p a.1+a.2.2:=by
 unfold IJ
 split
 ·unfold upd; rw [if_pos rfl]; exact Int.le_refl _
 ·omega
theorem LP:∀ (A:List Ar) (p:Nat→Int) (v:Nat),A.foldl IJ p v≤p v
 | [],_,_=>Int.le_refl _
 | a::A,p,v=>Int.le_trans (LP A _ v) (VU p a v)
theorem RL {f:Nat→Int}:∀ {A:List Ar} {p:Nat→Int},Fea A f→(∀ v,f v≤p v)→∀ v,f v≤A.foldl IJ p v
 | [],_,_,h,v=>h v
 | a::_,_,hf,h,v=>RL (fun b hb=>hf b (List.mem_cons_of_mem _ hb)) (Adf (hf a (List.mem_cons_self ..)) h) v
theorem To {q:Nat→Int}:∀ {A:List Ar} {p:Nat→Int},(∀ v,p v≤q v)→∀ a∈A,A.foldl IJ p a.2.1≤q a.1+a.2.2
 | b::A,p,h,a,ha=>by
  rw [List.foldl_cons]
  rcases List.mem_cons.1 ha with rfl | ha
  ·have h1:=LP A (IJ p a) a.2.1;have h2:=Z0 p a;have:=h a.1;omega
  ·exact To (fun v=>Int.le_trans (VU p b v) (h v)) a ha
def Fc (A:List Ar):Nat→(Nat→Int)→Nat→Int
 | 0,p=>p
 | r+1,p=>A.foldl IJ (Fc A r p)
theorem Kz (A:List Ar):∀ (r:Nat) (v:Nat),Fc A r (fun _=>0) v≤DD A r v
 | 0,v=>Int.le_refl _
 | r+1,v=>by
  show A.foldl IJ (Fc A r fun _=>0) v≤_
  rcases VS A r v with h | ⟨a,ha,hv,h⟩
  ·rw [h]; exact Int.le_trans (LP A _ v) (Kz A r v)
  ·rw [h,← hv]; exact To (Kz A r) a ha
theorem K3 {A:List Ar} {f:Nat→Int} (hf:Fea A f) (h0:∀ v,f v≤0):∀ (r v:Nat),f v≤Fc A r (fun _=>0) v
 | 0,v=>h0 v
 | r+1,v=>RL hf (K3 hf h0 r) v
theorem Xi {A:List Ar} {n:Nat} {q:Nat→Int} (hq:Fea A q) (hA:∀ a∈A,a.1<n∧a.2.1<n):Fea A (Fc A n fun _=>0):=by
 have hf:=UU hq hA;have h0:∀ v,DD A n v≤0:=fun v=>LN A v (Nat.zero_le n);have he:∀ v,Fc A n (fun _=>0) v=DD A n v:=fun v=>Int.le_antisymm (Kz A n v) (K3 hf h0 n v);intro a ha;rw [he,he];exact hf a ha
theorem Z4 {A:List Ar} {n:Nat} {q:Nat→Int} (hq:Fea A q) (hA:∀ a∈A,a.1<n∧a.2.1<n) {m:Int} (hc:∀ a∈A,-m≤a.2.2) (r v:Nat)  (hm:0≤m:=by omega): -(n*m)≤Fc A r (fun _=>0) v∧Fc A r (fun _=>0) v≤0 :=
 ⟨Int.le_trans (VT hm hc n v) (K3 (UU hq hA) (fun v=>LN A v (Nat.zero_le n)) r v),Int.le_trans (Kz A r v) (LN A v (Nat.zero_le r))⟩
end Go.Proofs.YtdagmpmdcgedcaaGreat
namespace Go.Proofs.YtdagmpmdcgedcaaGreat
open Go.GV
theorem Tp (a b:Int):a<b∨b≤a:=by omega
def B7 (f:Nat→Int):Nat→Int
 | 0=>0
 | k+1=>B7 f k+f k
theorem Cu {f g:Nat→Int}:∀ {k:Nat},(∀ i,i<k→f i=g i)→B7 f k=B7 g k
 | 0,_=>rfl
 | k+1,h=>by
  show B7 f k+f k=B7 g k+g k;rw [Cu fun i hi=>h i (by omega),h k (by omega)]
theorem NF (f g:Nat→Int):∀ k,B7 (fun i=>f i+g i) k=B7 f k+B7 g k
 | 0=>rfl
 | k+1=>by
  show B7 _ k+(f k+g k)=(B7 f k+f k)+(B7 g k+g k);rw [NF f g k]; omega
theorem NG (f:Nat→Int):∀ k,B7 (fun i => -f i) k = -B7 f k
 | 0=>rfl
 | k+1=>by
  show B7 _ k + -f k = -(B7 f k+f k);rw [NG f k]; omega
theorem K4 (f g:Nat→Int) (k:Nat):B7 (fun i=>f i - g i) k=B7 f k - B7 g k:=by
 have h:=NF f (fun i => -g i) k;rw [NG] at h;exact h
theorem RM (c:Int) (f:Nat→Int):∀ k,B7 (fun i=>c*f i) k=c*B7 f k
 | 0=>by show (0:Int)=c*0; omega
 | k+1=>by
  show B7 _ k+c*f k=c*(B7 f k+f k);rw [RM c f k,Int.mul_add]
theorem G9:∀ k,B7 (fun _=>0) k=0
 | 0=>rfl
 | k+1=>by show B7 _ k+0=0; rw [G9 k]; rfl
theorem Hu {f:Nat→Int}:∀ {k:Nat},(∀ i,i<k→0≤f i)→0≤B7 f k
 | 0,_=>Int.le_refl _
 | k+1,h=>by
  have:=Hu (k:=k) fun i hi=>h i (by omega);have:=h k (by omega);show 0≤B7 f k+f k;omega
theorem JY {f g:Nat→Int} {k:Nat} (h:∀ i,i<k→f i≤g i):B7 f k≤B7 g k:=by
 have h1:=Hu (f:=fun i=>g i - f i) (k:=k) fun i hi=>by have:=h i hi; omega
 rw [K4] at h1;omega
theorem RN {f:Nat→Int}:∀ {k:Nat} {j:Nat},(∀ i,i<k→0≤f i)→j<k→0<f j→0<B7 f k
 | k+1,j,h,hj,hp=>by
  show 0<B7 f k+f k;have h1:=Hu (k:=k) fun i hi=>h i (by omega);have h2:=h k (by omega)
  by_cases e:j=k
  ·subst e; omega
  ·have:=RN (k:=k) (j:=j) (fun i hi=>h i (by omega)) (by omega) hp;omega
theorem OU (f:Nat→Nat→Int) (m:Nat):∀ k,B7 (fun i=>B7 (f i) m) k=B7 (fun j=>B7 (fun i=>f i j) k) m
 | 0=>(G9 m).symm
 | k+1=>by
  show B7 _ k+B7 (f k) m=B7 (fun j=>B7 (fun i=>f i j) k+f k j) m;rw [NF,OU f m k]
def one (b:Prop) [Decidable b]:Int:=if b then 1 else 0
theorem GY (g:Nat→Int) {u:Nat}:∀ {k:Nat},u<k→B7 (fun v=>one (u=v)*g v) k=g u
 | k+1,h=>by
  show B7 _ k+one (u=k)*g k=g u
  by_cases e:u=k
  ·subst e
   have h1:B7 (fun v=>one (u=v)*g v) u=B7 (fun _=>0) u:=Cu fun i hi=>by
    unfold one; rw [if_neg (by omega)]; omega
   rw [h1,G9,one,if_pos rfl]; omega
  ·rw [GY g (by omega:u<k),one,if_neg e]; omega
structure Gr where
 N:Nat
 E:Nat
 f:Nat→Nat
 t:Nat→Nat
 co:Nat→Int
structure Gr.Ok (g:Gr):Prop where
 f:∀ i,i<g.E→g.f i<g.N
 t:∀ i,i<g.E→g.t i<g.N
def DS (g:Gr) (x:Nat→Int) (k v:Nat):Int:=B7 (fun i=>(one (g.t i=v) - one (g.f i=v))*x i) k
def BC (g:Gr) (x:Nat→Int) (v:Nat):Int:=DS g x g.E v
def Hv (g:Gr) (x:Nat→Int):Int:=B7 (fun i=>x i*g.co i) g.E
theorem UV (g:Gr) (hg:g.Ok) (x r:Nat→Int):B7 (fun v=>BC g x v*r v) g.N=B7 (fun i=>(r (g.t i) - r (g.f i))*x i) g.E:=by
 have h1:B7 (fun v=>BC g x v*r v) g.N=B7 (fun v=>B7 (fun i=>(one (g.t i=v) - one (g.f i=v))*x i*r v) g.E) g.N:=Cu fun v _=>by
  unfold BC DS;rw [Int.mul_comm,← RM];exact Cu fun i _=>by rw [Int.mul_comm]
 rw [h1,← OU];refine Cu fun i hi=>?_
 have h2:B7 (fun v=>(one (g.t i=v) - one (g.f i=v))*x i*r v) g.N=B7 (fun v=>one (g.t i=v)*(x i*r v) - one (g.f i=v)*(x i*r v)) g.N:=Cu fun v _=>by
  rw [Int.mul_assoc,Int.sub_mul]
 rw [h2,K4,GY (fun v=>x i*r v) (hg.t i hi),GY (fun v=>x i*r v) (hg.f i hi),Int.sub_mul,Int.mul_comm (r _),Int.mul_comm (r _)]
theorem over_all (g:Gr) (hg:g.Ok) (x:Nat→Int):B7 (BC g x) g.N=0:=by
 have h:=UV g hg x fun _=>1;have h1:B7 (fun v=>BC g x v*1) g.N=B7 (BC g x) g.N:=Cu fun v _=>by omega
 rw [← h1,h];have h2:B7 (fun i=>((1:Int) - 1)*x i) g.E=B7 (fun _=>0) g.E:=Cu fun i _=>by omega
 rw [h2,G9]
def Gr.u (g:Gr) (a:Nat):Nat:=if a % 2=0 then g.f (a / 2) else g.t (a / 2)
def Gr.v (g:Gr) (a:Nat):Nat:=if a % 2=0 then g.t (a / 2) else g.f (a / 2)
def Gr.c (g:Gr) (a:Nat):Int:=if a % 2=0 then g.co (a / 2) else -g.co (a / 2)
def CC (cap x:Nat→Int) (a:Nat):Int:=if a % 2=0 then cap (a / 2) - x (a / 2) else x (a / 2)
def Gr.len (g:Gr) (p:Nat→Int) (a:Nat):Int:=g.c a+p (g.u a) - p (g.v a)
structure Fine (g:Gr) (cap x p:Nat→Int):Prop where
 in':∀ i,i<g.E→0≤x i∧x i≤cap i
 fit:∀ a,a<2*g.E→0<CC cap x a→0≤g.len p a
theorem Gr.Ok.u {g:Gr} (h:g.Ok) {a:Nat} (ha:a<2*g.E):g.u a<g.N:=by
 unfold Gr.u; split
 ·exact h.f _ (by omega)
 ·exact h.t _ (by omega)
theorem Gr.Ok.v {g:Gr} (h:g.Ok) {a:Nat} (ha:a<2*g.E):g.v a<g.N:=by
 unfold Gr.v; split
 ·exact h.t _ (by omega)
 ·exact h.f _ (by omega)
theorem JZ (g:Gr) (i:Nat):g.u (2*i)=g.f i∧g.v (2*i)=g.t i∧g.c (2*i)=g.co i:=by
 unfold Gr.u Gr.v Gr.c;rw [if_pos (by omega),if_pos (by omega),if_pos (by omega),show 2*i / 2=i by omega];exact ⟨rfl,rfl,rfl⟩
theorem LQ (g:Gr) (i:Nat):g.u (2*i+1)=g.t i∧g.v (2*i+1)=g.f i∧g.c (2*i+1) = -g.co i:=by
 unfold Gr.u Gr.v Gr.c;rw [if_neg (by omega),if_neg (by omega),if_neg (by omega),show (2*i+1) / 2=i by omega];exact ⟨rfl,rfl,rfl⟩
theorem Fine.fwd {g:Gr} {cap x p:Nat→Int} (h:Fine g cap x p) {i:Nat} (hi:i<g.E) (hr:x i<cap i):0≤g.co i+p (g.f i) - p (g.t i):=by
 have h1:=h.fit (2*i) (by omega) (by unfold CC; rw [if_pos (by omega),show 2*i / 2=i by omega]; omega);obtain ⟨a,b,c⟩:=JZ g i;unfold Gr.len at h1
 rwa [a,b,c] at h1
theorem Fine.bwd {g:Gr} {cap x p:Nat→Int} (h:Fine g cap x p) {i:Nat} (hi:i<g.E) (hr:0<x i):g.co i+p (g.f i) - p (g.t i)≤0:=by
 have h1:=h.fit (2*i+1) (by omega) (by unfold CC; rw [if_neg (by omega),show (2*i+1) / 2=i by omega]; exact hr);obtain ⟨a,b,c⟩:=LQ g i;unfold Gr.len at h1;rw [a,b,c] at h1;omega
theorem Fine.of {g:Gr} {cap x p:Nat→Int} (h0:∀ i,i<g.E→0≤x i∧x i≤cap i) (h1:∀ i,i<g.E→x i<cap i→0≤g.co i+p (g.f i) - p (g.t i)) (h2:∀ i,i<g.E→0<x i→g.co i+p (g.f i) - p (g.t i)≤0):Fine g cap x p:=by
 refine ⟨h0,fun a ha hr=>?_⟩;have hm:a % 2=0∨a % 2=1:=by omega
 unfold Gr.len
 rcases hm with hm | hm
 ·obtain ⟨b,c,d⟩:=JZ g (a / 2);rw [show 2*(a / 2)=a by omega] at b c d;rw [b,c,d];unfold CC at hr;rw [if_pos hm] at hr;exact h1 _ (by omega) (by omega)
 ·obtain ⟨b,c,d⟩:=LQ g (a / 2);rw [show 2*(a / 2)+1=a by omega] at b c d;rw [b,c,d];unfold CC at hr;rw [if_neg (by omega)] at hr;have:=h2 _ (by omega) hr;omega
theorem Fine.best {g:Gr} (hg:g.Ok) {cap x p:Nat→Int} (h:Fine g cap x p) (hx:∀ v,v<g.N→BC g x v=0) {y:Nat→Int} (hy:∀ i,i<g.E→0≤y i∧y i≤cap i) (hyo:∀ v,v<g.N→BC g y v=0):Hv g x≤Hv g y:=by
 have hz:∀ z:Nat→Int,(∀ v,v<g.N→BC g z v=0)→Hv g z=B7 (fun i=>(g.co i+p (g.f i) - p (g.t i))*z i) g.E:=fun z hz=>by
  have h1:=UV g hg z p;have h2:B7 (fun v=>BC g z v*p v) g.N=B7 (fun _=>0) g.N:=Cu fun v hv=>by rw [hz v hv]; omega
  rw [h2,G9] at h1
  have h3:B7 (fun i=>(g.co i+p (g.f i) - p (g.t i))*z i) g.E=B7 (fun i=>z i*g.co i - (p (g.t i) - p (g.f i))*z i) g.E:=Cu fun i _=>by
   rw [Int.mul_comm (z i),← Int.sub_mul]; congr 1; omega
  rw [h3,K4,← h1];unfold Hv;omega
 rw [hz x hx,hz y hyo];refine JY fun i hi=>?_;obtain ⟨a,b⟩:=h.in' i hi;obtain ⟨c,d⟩:=hy i hi
 rcases Tp (g.co i+p (g.f i) - p (g.t i)) 0 with h5 | h5
 ·have h6:x i=cap i:=by
   rcases Tp (x i) (cap i) with h7 | h7
   ·have:=h.fwd hi h7; omega
   ·omega
  exact Int.mul_le_mul_of_nonpos_left (by omega) (by omega)
 ·rcases Tp 0 (g.co i+p (g.f i) - p (g.t i)) with h6 | h6
  ·have h7:x i=0:=by
    rcases Tp 0 (x i) with h7 | h7
    ·have:=h.bwd hi h7; omega
    ·omega
   exact Int.mul_le_mul_of_nonneg_left (by omega) (by omega)
  ·rw [show g.co i+p (g.f i) - p (g.t i)=0 by omega]; omega
end Go.Proofs.YtdagmpmdcgedcaaGreat
namespace Go.Proofs.YtdagmpmdcgedcaaGreat
open Go.GV
structure Lb where
 d:Nat→Int
 h:Nat→Nat
def le2 (d1:Int) (h1:Nat) (d2:Int) (h2:Nat):Prop:=d1<d2∨(d1=d2∧h1≤h2)
theorem le2.trans {a b c:Int} {x y z:Nat} (h1:le2 a x b y) (h2:le2 b y c z):le2 a x c z:=by unfold le2 at *; omega
theorem le2.refl (a:Int) (x:Nat):le2 a x a x := .inr ⟨rfl,Nat.le_refl _⟩
def DX (s:Lb) (v:Nat) (d:Int) (h:Nat):Prop:=s.d v = -1∨d<s.d v∨(d=s.d v∧h<s.h v)
instance (s:Lb) (v:Nat) (d:Int) (h:Nat):Decidable (DX s v d h):=by unfold DX; infer_instance
def Hw (s:Lb) (v:Nat) (d:Int) (h:Nat):Lb:=⟨fun u=>if u=v then d else s.d u,fun u=>if u=v then h else s.h u⟩
def GA (s:Lb) (a:Ar):Lb:=if DX s a.2.1 (s.d a.1+a.2.2) (s.h a.1+1) then Hw s a.2.1 (s.d a.1+a.2.2) (s.h a.1+1) else s
def Iy (s:Lb) (a:Ar) (hp:List (Int × Nat)):List (Int × Nat):=if DX s a.2.1 (s.d a.1+a.2.2) (s.h a.1+1) then (s.d a.1+a.2.2,a.2.1)::hp else hp
def RQ (A:List Ar) (n:Nat) (m:Int):Prop:=∀ a∈A,a.1<n∧a.2.1<n∧0≤a.2.2∧a.2.2≤m
structure DJ (A:List Ar) (src:List Nat) (n:Nat) (m:Int) (s:Lb):Prop where
 low:∀ v,s.d v = -1∨0≤s.d v
 src':∀ v∈src,v<n∧s.d v=0∧s.h v=0
 zero:∀ v,s.d v ≠ -1→s.h v=0→v∈src
 none':∀ v,s.d v = -1→s.h v=0
 pre:∀ v,s.d v ≠ -1→s.h v≠0→∃ a∈A,a.2.1=v∧s.d a.1 ≠ -1∧le2 (s.d a.1+a.2.2) (s.h a.1+1) (s.d v) (s.h v)
 walk:∀ v,s.d v ≠ -1→∃ W:List Nat,W.Nodup∧W.length=s.h v+1∧∀ x∈W,x<n∧s.d x ≠ -1∧le2 (s.d x) (s.h x) (s.d v) (s.h v)
 bnd:∀ v,s.d v ≠ -1→s.d v≤s.h v*m
def Rlx (s:Lb) (a:Ar):Prop:=s.d a.2.1 ≠ -1∧le2 (s.d a.2.1) (s.h a.2.1) (s.d a.1+a.2.2) (s.h a.1+1)
def Clo (A:List Ar) (s:Lb) (hp:List (Int × Nat)) (u:Nat) (done:List Ar):Prop :=
 ∀ v,s.d v ≠ -1→(s.d v,v)∈hp∨∀ a∈A,a.1=v→(v=u→a∈done)→Rlx s a
def Z5 (n:Nat) (m:Int) (s:Lb) (v:Nat):Int:=if s.d v = -1 then n*m*64+64 else s.d v*64+s.h v
def meas (n:Nat) (m:Int) (s:Lb) (hp:List (Int × Nat)):Int:=2*B7 (Z5 n m s) n+hp.length
theorem DJ.hops {A:List Ar} {src:List Nat} {n:Nat} {m:Int} {s:Lb} (J:DJ A src n m s) {v:Nat} (hv:s.d v ≠ -1):s.h v+1≤n:=by
 obtain ⟨W,h1,h2,h3⟩:=J.walk v hv;rw [← h2];exact LO n W h1 fun x hx=>(h3 x hx).1
section
variable {A:List Ar} {src:List Nat} {n:Nat} {m:Int} {s:Lb} {hp:List (Int × Nat)} {u:Nat} {dn:List Ar} {a:Ar}
theorem DJ.relax (hA:RQ A n m) (hm:0≤m) (hn:n≤60) (J:DJ A src n m s) (K:Clo A s hp u dn) (ha:a∈A) (hu:a.1=u) (hd:s.d u ≠ -1) :
  DJ A src n m (GA s a)∧Clo A (GA s a) (Iy s a hp) u (dn++[a])∧(GA s a).d u=s.d u∧(GA s a).h u=s.h u∧meas n m (GA s a) (Iy s a hp)≤meas n m s hp:=by
 subst hu;obtain ⟨hu1,hv1,hl0,hlm⟩:=hA a ha;have hdu:=(J.low a.1).resolve_left hd
 by_cases hb:DX s a.2.1 (s.d a.1+a.2.2) (s.h a.1+1)
 ·obtain ⟨d',hd'⟩:∃ d',d'=s.d a.1+a.2.2:=⟨_,rfl⟩;obtain ⟨h',hh'⟩:∃ h',h'=s.h a.1+1:=⟨_,rfl⟩;obtain ⟨v,hv⟩:∃ v,v=a.2.1:=⟨_,rfl⟩;have hS:GA s a=Hw s v d' h':=by unfold GA; rw [if_pos hb,hd',hh',hv]
  have hH:Iy s a hp=(d',v)::hp:=by unfold Iy; rw [if_pos hb,hd',hv]
  rw [← hd',← hh',← hv] at hb;rw [← hv] at hv1
  have hvu:v≠a.1:=fun e=>by
   unfold DX at hb; rw [e] at hb;omega
  rw [hS,hH];have p1:(Hw s v d' h').d v=d':=if_pos rfl;have p2:(Hw s v d' h').h v=h':=if_pos rfl;have p3:∀ x,x≠v→(Hw s v d' h').d x=s.d x:=fun x hx=>if_neg hx;have p4:∀ x,x≠v→(Hw s v d' h').h x=s.h x:=fun x hx=>if_neg hx
  have hsrc:v∉src:=fun hs=>by
   obtain ⟨_,q1,q2⟩:=J.src' v hs;unfold DX at hb; rw [q1,q2] at hb; omega
  -- labels become no greater
  have hless:∀ x,s.d x ≠ -1→(Hw s v d' h').d x ≠ -1∧le2 ((Hw s v d' h').d x) ((Hw s v d' h').h x) (s.d x) (s.h x):=fun x hx=>by
   by_cases e:x=v
   ·subst e;rw [p1,p2];unfold DX at hb;exact ⟨by omega,by unfold le2; omega⟩
   ·rw [p3 x e,p4 x e]; exact ⟨hx,le2.refl _ _⟩
  have hadd:∀ {x:Nat} (l:Int),s.d x ≠ -1→le2 ((Hw s v d' h').d x+l) ((Hw s v d' h').h x+1) (s.d x+l) (s.h x+1):=fun {x} l hx=>by
   have:=(hless x hx).2; unfold le2 at *; omega
  -- the way to v
  obtain ⟨W,w1,w2,w3⟩:=J.walk a.1 hd
  have hvW:v∉W:=fun hx=>by
   have q:=(w3 v hx).2;unfold DX at hb; unfold le2 at q;omega
  have hWn:(W++[v]).Nodup:=by
   rw [List.nodup_append];exact ⟨w1,by simp,fun x hx y hy e=>by rw [List.mem_singleton.1 hy] at e; exact hvW (e ▸ hx)⟩
  have hWl:(W++[v]).length=h'+1:=by rw [List.length_append,w2,hh']; rfl
  have hh'n:h'+1≤n:=by
   rw [← hWl];exact LO n _ hWn fun x hx=>(List.mem_append.1 hx).elim (fun h=>(w3 x h).1) fun h=>by rw [List.mem_singleton.1 h]; exact hv1
  have hbd:d'≤h'*m:=by
   have q:=J.bnd a.1 hd;rw [hd',hh',Int.natCast_add,Int.add_mul]; simp; omega
  have J':DJ A src n m (Hw s v d' h'):=by
   refine ⟨fun x=>?_,fun x hx=>?_,fun x hx h0=>?_,fun x hx=>?_,fun x hx h0=>?_,fun x hx=>?_,fun x hx=>?_⟩
   ·by_cases e:x=v
    ·subst e; rw [p1]; omega
    ·rw [p3 x e]; exact J.low x
   ·have e:x≠v:=fun e=>hsrc (e ▸ hx);rw [p3 x e,p4 x e]; exact J.src' x hx
   ·by_cases e:x=v
    ·subst e; rw [p2] at h0; omega
    ·rw [p3 x e] at hx; rw [p4 x e] at h0; exact J.zero x hx h0
   ·by_cases e:x=v
    ·subst e; rw [p1] at hx; omega
    ·rw [p3 x e] at hx; rw [p4 x e]; exact J.none' x hx
   ·by_cases e:x=v
    ·subst e;refine ⟨a,ha,hv.symm,?_,?_⟩
     ·rw [p3 _ (Ne.symm hvu)]; exact hd
     ·rw [p1,p2,p3 _ (Ne.symm hvu),p4 _ (Ne.symm hvu),← hd',← hh']; exact le2.refl _ _
    ·rw [p3 x e] at hx ⊢; rw [p4 x e] at h0 ⊢;obtain ⟨b,hb1,hb2,hb3,hb4⟩:=J.pre x hx h0;exact ⟨b,hb1,hb2,(hless _ hb3).1,(hadd _ hb3).trans hb4⟩
   ·by_cases e:x=v
    ·subst e;refine ⟨W++[x],hWn,by rw [hWl,p2],fun y hy=>?_⟩;rw [p1,p2]
     rcases List.mem_append.1 hy with hy | hy
     ·obtain ⟨q1,q2,q3⟩:=w3 y hy;refine ⟨q1,(hless y q2).1,(hless y q2).2.trans (q3.trans ?_)⟩;unfold le2; omega
     ·rw [List.mem_singleton.1 hy,p1,p2];exact ⟨hv1,by omega,le2.refl _ _⟩
    ·rw [p3 x e] at hx ⊢; rw [p4 x e];obtain ⟨W2,q1,q2,q3⟩:=J.walk x hx;exact ⟨W2,q1,q2,fun y hy=>⟨(q3 y hy).1,(hless y (q3 y hy).2.1).1,(hless y (q3 y hy).2.1).2.trans (q3 y hy).2.2⟩⟩
   ·by_cases e:x=v
    ·subst e; rw [p1,p2]; exact hbd
    ·rw [p3 x e] at hx ⊢; rw [p4 x e]; exact J.bnd x hx
  have hval:∀ x,Z5 n m (Hw s v d' h') x≤Z5 n m s x - one (v=x):=fun x=>by
   by_cases e:x=v
   ·subst e;unfold one; rw [if_pos rfl];unfold Z5;rw [p1,p2,if_neg (show ¬ d' = -1 by omega)]
    split
    ·have q:(h':Int)*m≤(n:Int)*m:=Int.mul_le_mul_of_nonneg_right (by omega) hm;omega
    ·have q1:=(J.low x).resolve_left ‹_›;unfold DX at hb;omega
   ·have e1:one (v=x)=0:=if_neg fun h=>e h.symm;unfold Z5;rw [p3 x e,p4 x e,e1,Int.sub_zero];exact Int.le_refl _
  refine ⟨J',fun x hx=>?_,p3 _ (Ne.symm hvu),p4 _ (Ne.symm hvu),?_⟩
  ·by_cases e:x=v
   ·subst e; left; rw [p1]; exact List.mem_cons_self ..
   ·rw [p3 x e] at hx ⊢
    rcases K x hx with q | q
    ·exact .inl (List.mem_cons_of_mem _ q)
    ·refine .inr fun b hb1 hb2 hb3=>?_
     by_cases eb:b=a
     ·subst eb;refine ⟨by rw [← hv,p1]; omega,?_⟩;rw [← hv,p1,p2,p3 _ (Ne.symm hvu),p4 _ (Ne.symm hvu),← hd',← hh']; exact le2.refl _ _
     ·obtain ⟨r1,r2⟩:=q b hb1 hb2 fun h=>(List.mem_append.1 (hb3 h)).resolve_right fun h=>eb (List.mem_singleton.1 h);refine ⟨(hless _ r1).1,(hless _ r1).2.trans ?_⟩;have eb1:b.1≠v:=by rw [hb2]; exact e
      rw [p3 _ eb1,p4 _ eb1]; exact r2
  ·unfold meas;have q1:=JY (k:=n) fun i _=>hval i;rw [K4] at q1;have q2:=GY (fun _=>(1:Int)) hv1;have q3:B7 (fun x=>one (v=x)) n=B7 (fun x=>one (v=x)*1) n:=Cu fun i _=>by omega
   rw [← q3] at q2;rw [List.length_cons];omega
 ·have hS:GA s a=s:=by unfold GA; rw [if_neg hb]
  have hH:Iy s a hp=hp:=by unfold Iy; rw [if_neg hb]
  rw [hS,hH];refine ⟨J,fun x hx=>?_,rfl,rfl,Int.le_refl _⟩
  rcases K x hx with q | q
  ·exact .inl q
  ·refine .inr fun b hb1 hb2 hb3=>?_
   by_cases eb:b=a
   ·subst eb;unfold DX at hb;unfold Rlx le2;omega
   ·exact q b hb1 hb2 fun h=>(List.mem_append.1 (hb3 h)).resolve_right fun h=>eb (List.mem_singleton.1 h)
def lb0 (src:List Nat):Lb:=⟨fun v=>if v∈src then 0 else -1,fun _=>0⟩
theorem DJ.start (hs:∀ v∈src,v<n):DJ A src n m (lb0 src):=by
 have h1:∀ v,(lb0 src).d v ≠ -1→v∈src:=fun v hv=>Classical.byContradiction fun h=>hv (if_neg h);refine ⟨fun v=>?_,fun v hv=>⟨hs v hv,if_pos hv,rfl⟩,fun v hv _=>h1 v hv,fun v _=>rfl,fun v _ h=>absurd rfl h,fun v hv=>⟨[v],by simp,rfl,fun x hx=>?_⟩,fun v hv=>?_⟩
 ·unfold lb0; dsimp only; split
  ·exact .inr (Int.le_refl _)
  ·exact .inl U
 ·rw [List.mem_singleton.1 hx]; exact ⟨hs v (h1 v hv),hv,le2.refl _ _⟩
 ·have:(lb0 src).d v=0:=if_pos (h1 v hv);rw [this]; show (0:Int)≤((0:Nat):Int)*m; omega
structure Done (A:List Ar) (src:List Nat) (n:Nat) (m:Int) (s:Lb):Prop where
 J:DJ A src n m s
 arc:∀ a∈A,s.d a.1 ≠ -1→s.d a.2.1 ≠ -1∧s.d a.2.1≤s.d a.1+a.2.2
 pre:∀ v,s.d v ≠ -1→s.h v≠0→∃ a∈A,a.2.1=v∧s.d a.1 ≠ -1∧s.d a.1+a.2.2=s.d v∧s.h a.1+1=s.h v
theorem DJ.ends (J:DJ A src n m s) (K:Clo A s [] u A):Done A src n m s:=by
 have hr:∀ a∈A,s.d a.1 ≠ -1→Rlx s a:=fun a ha h=>(K a.1 h).elim (fun h=>by cases h) fun h=>h a ha rfl fun _=>ha;refine ⟨J,fun a ha h=>?_,fun v hv h0=>?_⟩
 ·obtain ⟨h1,h2⟩:=hr a ha h;exact ⟨h1,by unfold le2 at h2; omega⟩
 ·obtain ⟨a,ha,h1,h2,h3⟩:=J.pre v hv h0;obtain ⟨h4,h5⟩:=hr a ha h2;rw [h1] at h5;refine ⟨a,ha,h1,h2,?_,?_⟩
  ·unfold le2 at h3 h5; omega
  ·unfold le2 at h3 h5; omega
end
end Go.Proofs.YtdagmpmdcgedcaaGreat
namespace Go.Proofs.YtdagmpmdcgedcaaGreat
open Go.GV
def N0 (g:Gr) (cap x p:Nat→Int):List Ar:=((List.range (2*g.E)).filter fun a=>decide (0<CC cap x a)).map fun a=>(g.u a,g.v a,g.len p a)
theorem Ka {g:Gr} {cap x p:Nat→Int} {b:Ar}:b∈N0 g cap x p↔∃ a,a<2*g.E∧0<CC cap x a∧b=(g.u a,g.v a,g.len p a):=by
 unfold N0;rw [List.mem_map];constructor
 ·rintro ⟨a,ha,rfl⟩;rw [List.mem_filter,List.mem_range,decide_eq_true_eq] at ha;exact ⟨a,ha.1,ha.2,rfl⟩
 ·rintro ⟨a,h1,h2,rfl⟩;exact ⟨a,List.mem_filter.2 ⟨List.mem_range.2 h1,decide_eq_true h2⟩,rfl⟩
theorem Fine.arcs {g:Gr} (hg:g.Ok) {cap x p:Nat→Int} (h:Fine g cap x p) {m:Int} (hm:∀ a,a<2*g.E→g.len p a≤m):RQ (N0 g cap x p) g.N m:=fun b hb=>by
 obtain ⟨a,h1,h2,rfl⟩:=Ka.1 hb;exact ⟨hg.u h1,hg.v h1,h.fit a h1 h2,hm a h1⟩
theorem reach {g:Gr} (hg:g.Ok) {cap x p:Nat→Int} (h:Fine g cap x p) {src:List Nat} {m:Int} {s:Lb} (D:Done (N0 g cap x p) src g.N m s) {v:Nat} (hv:v<g.N) (hd:s.d v ≠ -1) (ho:0<BC g x v):∃ w,w<g.N∧s.d w ≠ -1∧BC g x w<0:=by
 refine Classical.byContradiction fun hn=>?_;obtain ⟨r,hr⟩:∃ r:Nat→Int,r=fun v=>if s.d v ≠ -1 then 1 else 0:=⟨_,rfl⟩;have hr1:∀ {v:Nat},s.d v ≠ -1→r v=1:=fun {v} h=>by rw [hr]; exact if_pos h
 have hr0:∀ {v:Nat},s.d v = -1→r v=0:=fun {v} h=>by rw [hr]; exact if_neg fun h2=>h2 h
 have h1:0<B7 (fun v=>BC g x v*r v) g.N:=by
  refine RN (j:=v) (fun w hw=>?_) hv (by rw [hr1 hd]; omega)
  by_cases e:s.d w = -1
  ·rw [hr0 e]; omega
  ·rw [hr1 e];have:=Int.not_lt.1 fun h5=>hn ⟨w,hw,e,h5⟩;omega
 rw [UV g hg x r] at h1
 have h2:B7 (fun i=>(r (g.t i) - r (g.f i))*x i) g.E≤B7 (fun _=>0) g.E:=JY fun i hi=>by
  obtain ⟨hx0,hx1⟩:=h.in' i hi
  by_cases e1:s.d (g.t i) = -1
  ·rw [hr0 e1]
   by_cases e2:s.d (g.f i) = -1
   ·rw [hr0 e2]; omega
   ·rw [hr1 e2]; omega
  ·rw [hr1 e1]
   by_cases e2:s.d (g.f i) = -1
   ·have e3:x i=0:=by
     rcases Tp 0 (x i) with h5 | h5
     ·exfalso;obtain ⟨a1,a2,a3⟩:=LQ g i;have:=D.arc _ (Ka.2 ⟨2*i+1,by omega,by unfold CC; rw [if_neg (by omega),show (2*i+1) / 2=i by omega]; exact h5,rfl⟩) (by dsimp only; rw [a1]; exact e1);dsimp only at this;rw [a2] at this;exact this.1 e2
     ·omega
    rw [e3]; omega
   ·rw [hr1 e2]; omega
 rw [G9] at h2;omega
structure Way1 (g:Gr) (cap x p:Nat→Int) (s:Lb) (a:Nat):Prop where
 lt:a<2*g.E
 room:0<CC cap x a
 du:s.d (g.u a) ≠ -1
 dv:s.d (g.v a) ≠ -1
 d:s.d (g.u a)+g.len p a=s.d (g.v a)
 h:s.h (g.u a)+1=s.h (g.v a)
def Bys (g:Gr) (cap x p:Nat→Int) (s:Lb) (by':Nat→Option Nat):Prop :=
 (∀ v,s.d v = -1∨s.h v=0→by' v=none)∧∀ v,s.d v ≠ -1→s.h v≠0→∃ a,by' v=some a∧Way1 g cap x p s a∧g.v a=v
def Ea (by':Nat→Option Nat) (g:Gr):Nat→Nat→List Nat
 | 0,_=>[]
 | k+1,v=>match by' v with
  | none=>[]
  | some a=>a::Ea by' g k (g.u a)
def Nk (by':Nat→Option Nat) (g:Gr):Nat→Nat→Nat
 | 0,v=>v
 | k+1,v=>match by' v with
  | none=>v
  | some a=>Nk by' g k (g.u a)
section
variable {g:Gr} {cap x p:Nat→Int} {s:Lb} {by':Nat→Option Nat}
theorem Hh {k v a:Nat} (h:by' v=some a):Ea by' g (k+1) v=a::Ea by' g k (g.u a)∧Nk by' g (k+1) v=Nk by' g k (g.u a):=by
 constructor
 ·show (match by' v with | none=>[] | some a=>a::Ea by' g k (g.u a))=_;rw [h]
 ·show (match by' v with | none=>v | some a=>Nk by' g k (g.u a))=_;rw [h]
theorem K5 (hB:Bys g cap x p s by'):∀ {k v:Nat},s.d v ≠ -1→s.h v=k→(∀ a∈Ea by' g k v,Way1 g cap x p s a∧s.h (g.v a)≤k)∧(Ea by' g k v).Pairwise (fun a b=>s.h (g.v b)<s.h (g.v a))∧s.d (Nk by' g k v) ≠ -1∧s.h (Nk by' g k v)=0
 | 0,v,hd,hk=>⟨(fun a h=>by cases h),List.Pairwise.nil,hd,hk⟩
 | k+1,v,hd,hk=>by
  obtain ⟨a,h1,h2,h3⟩:=hB.2 v hd (by omega);obtain ⟨e1,e2⟩:=Hh (g:=g) (k:=k) h1;have hh:=h2.h;rw [h3,hk] at hh;obtain ⟨q1,q2,q3,q4⟩:=K5 hB (k:=k) h2.du (by omega);rw [e1,e2];refine ⟨fun b hb=>?_,List.Pairwise.cons (fun b hb=>?_) q2,q3,q4⟩
  ·rcases List.mem_cons.1 hb with rfl | hb
   ·exact ⟨h2,by rw [h3]; omega⟩
   ·exact ⟨(q1 b hb).1,by have:=(q1 b hb).2; omega⟩
  ·have:=(q1 b hb).2;rw [h3]; omega
theorem OV (hB:Bys g cap x p s by') {k v:Nat} (hd:s.d v ≠ -1) (hk:s.h v=k):(Ea by' g k v).Pairwise (fun a b=>a / 2≠b / 2):=by
 obtain ⟨q1,q2,-,-⟩:=K5 hB hd hk;refine List.Pairwise.imp_of_mem (R:=fun a b=>s.h (g.v b)<s.h (g.v a)) (fun {a b} ha hb hab he=>?_) q2;have wa:=(q1 a ha).1; have wb:=(q1 b hb).1;have h1:=wa.h; have h2:=wb.h
 by_cases e:a=b
 ·rw [e] at hab; omega
 ·have hm:a % 2≠b % 2:=by omega
  have e1:g.u a=g.v b:=by
   unfold Gr.u Gr.v; rw [he]
   split
   ·rw [if_neg (by omega)]
   ·rw [if_pos (by omega)]
  have e2:g.v a=g.u b:=by
   unfold Gr.u Gr.v; rw [he]
   split
   ·rw [if_neg (by omega)]
   ·rw [if_pos (by omega)]
  rw [e1] at h1; rw [e2] at h1 hab;omega
end
def IK (m:Int) (x:Nat→Int) (a:Nat):Nat→Int:=fun i=>if i=a / 2 then (if a % 2=0 then x i+m else x i - m) else x i
def F6 (m:Int) (x:Nat→Int) (l:List Nat):Nat→Int:=l.foldl (IK m) x
theorem Qu (g:Gr) (m:Int) (x:Nat→Int) {a:Nat} (ha:a<2*g.E) (w:Nat):BC g (IK m x a) w=BC g x w+m*(one (g.v a=w) - one (g.u a=w)):=by
 have hi:a / 2<g.E:=by omega
 have h1:BC g (IK m x a) w=B7 (fun i=>(one (g.t i=w) - one (g.f i=w))*x i+one (a / 2=i)*((one (g.t i=w) - one (g.f i=w))*(if a % 2=0 then m else -m))) g.E:=Cu fun i _=>by
  by_cases e:i=a / 2
  ·have h1:IK m x a i=if a % 2=0 then x i+m else x i - m:=if_pos e;have h2:one (a / 2=i)=1:=if_pos e.symm;rw [h1,h2]
   by_cases hp:a % 2=0
   ·rw [if_pos hp,if_pos hp,Int.mul_add,Int.one_mul]
   ·rw [if_neg hp,if_neg hp,Int.mul_sub,Int.one_mul,Int.mul_neg]; omega
  ·have h1:IK m x a i=x i:=if_neg e;have h2:one (a / 2=i)=0:=if_neg (Ne.symm e);rw [h1,h2]; omega
 rw [h1,NF,GY (fun i=>(one (g.t i=w) - one (g.f i=w))*(if a % 2=0 then m else -m)) hi];unfold BC DS Gr.u Gr.v
 split
 ·rw [Int.mul_comm m]
 ·congr 1
  rw [Int.mul_neg,← Int.neg_mul,Int.mul_comm m]; congr 1; omega
theorem Nl (g:Gr) (m:Int) {cap p:Nat→Int} {x0:Nat→Int} {s:Lb} {by':Nat→Option Nat} (hB:Bys g cap x0 p s by') (w:Nat):∀ {k v:Nat} (x:Nat→Int),s.d v ≠ -1→s.h v=k→BC g (F6 m x (Ea by' g k v)) w=BC g x w+m*(one (v=w) - one (Nk by' g k v=w))
 | 0,v,x,_,_=>by
  show BC g x w=BC g x w+m*(one (v=w) - one (v=w));rw [Int.sub_self]; omega
 | k+1,v,x,hd,hk=>by
  obtain ⟨a,h1,h2,h3⟩:=hB.2 v hd (by omega);obtain ⟨e1,e2⟩:=Hh (g:=g) (k:=k) h1;have hh:=h2.h;rw [h3,hk] at hh;rw [e1,e2];show BC g (F6 m (IK m x a) (Ea by' g k (g.u a))) w=_;rw [Nl g m hB w (k:=k) (IK m x a) h2.du (by omega),Qu g m x h2.lt,h3,Int.add_assoc,← Int.mul_add]
  congr 2; omega
theorem Jq {m:Int} {x:Nat→Int}:∀ {l:List Nat} {i:Nat},(∀ a∈l,a / 2≠i)→F6 m x l i=x i
 | [],i,_=>rfl
 | a::l,i,h=>by
  show F6 m (IK m x a) l i=_;rw [Jq (l:=l) fun b hb=>h b (List.mem_cons_of_mem _ hb)];exact if_neg fun e=>h a (List.mem_cons_self ..) e.symm
theorem VV {m:Int}:∀ {l:List Nat} {x:Nat→Int} {a:Nat},l.Pairwise (fun a b=>a / 2≠b / 2)→a∈l→F6 m x l (a / 2)=if a % 2=0 then x (a / 2)+m else x (a / 2) - m
 | b::l,x,a,hp,ha=>by
  obtain ⟨h1,h2⟩:=List.pairwise_cons.1 hp;show F6 m (IK m x b) l (a / 2)=_
  by_cases e:a=b
  ·subst e;rw [Jq fun c hc=>Ne.symm (h1 c hc)];exact if_pos U
  ·have ha':=(List.mem_cons.1 ha).resolve_left e;rw [VV h2 ha'];have:IK m x b (a / 2)=x (a / 2):=if_neg (Ne.symm (h1 a ha'));rw [this]
def RS (s:Lb) (D:Int) (v:Nat):Int:=if s.d v<0∨D<s.d v then D else s.d v
theorem Xj {g:Gr} {cap x p:Nat→Int} (h:Fine g cap x p) {src:List Nat} {m0:Int} {s:Lb} (D:Done (N0 g cap x p) src g.N m0 s) {by':Nat→Option Nat} (hB:Bys g cap x p s by') {v:Nat} (hd:s.d v ≠ -1) {m:Int} (hr:∀ a∈Ea by' g (s.h v) v,m≤CC cap x a)  (hm:0≤m:=by omega):
  Fine g cap (F6 m x (Ea by' g (s.h v) v)) (fun w=>p w+RS s (s.d v) w):=by
 obtain ⟨q1,-,-,-⟩:=K5 hB hd rfl;have hpe:=OV hB hd rfl;have hlow:=D.J.low;have hdv:=(hlow v).resolve_left hd
 have hlen:∀ a,a<2*g.E→0<CC cap x a→0≤g.len p a+RS s (s.d v) (g.u a) - RS s (s.d v) (g.v a):=fun a ha hra=>by
  have h1:=h.fit a ha hra;have h2:=D.arc _ (Ka.2 ⟨a,ha,hra,rfl⟩);dsimp only at h2;have h3:=hlow (g.u a); have h4:=hlow (g.v a);unfold RS
  by_cases e:s.d (g.u a) = -1
  ·rw [if_pos (.inl (by omega))]
   split <;> omega
  ·obtain ⟨h5,h6⟩:=h2 e
   split <;> split <;> omega
 have htight:∀ a∈Ea by' g (s.h v) v,g.len p a+RS s (s.d v) (g.u a) - RS s (s.d v) (g.v a)=0:=fun a ha=>by
  -- all nodes of the way are no farther
  have hle:∀ {k w:Nat},s.d w ≠ -1→s.h w=k→∀ a∈Ea by' g k w,s.d (g.v a)≤s.d w:=fun {k}=>by
   induction k with
   | zero=>intro w _ _ a ha; cases ha
   | succ k ih =>
    intro w hw hk a ha;obtain ⟨b,h1,h2,h3⟩:=hB.2 w hw (by omega);obtain ⟨e1,-⟩:=Hh (g:=g) (k:=k) h1;rw [e1] at ha;have hh:=h2.h;rw [h3,hk] at hh;have hfit:=h.fit b h2.lt h2.room;have hdd:=h2.d;rw [h3] at hdd
    rcases List.mem_cons.1 ha with rfl | ha
    ·rw [h3]; exact Int.le_refl _
    ·have:=ih h2.du (by omega) a ha; omega
  have h1:=hle hd rfl a ha;have w1:=(q1 a ha).1;have h2:=(hlow (g.u a)).resolve_left w1.du;have h3:=(hlow (g.v a)).resolve_left w1.dv;have h4:=w1.d;have h5:=h.fit a w1.lt w1.room;unfold RS;rw [if_neg (by omega),if_neg (by omega)];omega
 have hone:∀ i,i<g.E→(F6 m x (Ea by' g (s.h v) v) i=x i∧∀ a∈Ea by' g (s.h v) v,a / 2≠i)∨∃ a∈Ea by' g (s.h v) v,a / 2=i:=fun i _=>by
  by_cases e:∃ a∈Ea by' g (s.h v) v,a / 2=i
  ·exact .inr e
  ·have:∀ a∈Ea by' g (s.h v) v,a / 2≠i:=fun a ha he=>e ⟨a,ha,he⟩
   exact .inl ⟨Jq this,this⟩
 have hz:∀ i,i<g.E→(∃ a∈Ea by' g (s.h v) v,a / 2=i)→g.co i+(p (g.f i)+RS s (s.d v) (g.f i)) - (p (g.t i)+RS s (s.d v) (g.t i))=0:=fun i hi ⟨a,ha,he⟩=>by
  have h1:=htight a ha;unfold Gr.len at h1
  rcases (by omega:a=2*i∨a=2*i+1) with rfl | rfl
  ·obtain ⟨b,c,d⟩:=JZ g i;rw [b,c,d] at h1; omega
  ·obtain ⟨b,c,d⟩:=LQ g i;rw [b,c,d] at h1; omega
 refine Fine.of (fun i hi=>?_) (fun i hi hx=>?_) (fun i hi hx=>?_)
 ·obtain ⟨h1,h2⟩:=h.in' i hi
  rcases hone i hi with ⟨e,_⟩ | ⟨a,ha,he⟩
  ·rw [e]; exact ⟨h1,h2⟩
  ·have h3:=hr a ha;have h4:=VV (m:=m) (x:=x) hpe ha;rw [he] at h4;rw [h4];unfold CC at h3;rw [he] at h3
   split
   ·rename_i e; rw [if_pos e] at h3; omega
   ·rename_i e; rw [if_neg e] at h3; omega
 ·rcases hone i hi with ⟨e,_⟩ | e
  ·rw [e] at hx;have h1:=hlen (2*i) (by omega) (by unfold CC; rw [if_pos (by omega),show 2*i / 2=i by omega]; omega);obtain ⟨b,c,d⟩:=JZ g i;unfold Gr.len at h1;rw [b,c,d] at h1;omega
  ·have:=hz i hi e; omega
 ·rcases hone i hi with ⟨e,_⟩ | e
  ·rw [e] at hx;have h1:=hlen (2*i+1) (by omega) (by unfold CC; rw [if_neg (by omega),show (2*i+1) / 2=i by omega]; exact hx);obtain ⟨b,c,d⟩:=LQ g i;unfold Gr.len at h1;rw [b,c,d] at h1;omega
  ·have:=hz i hi e; omega
def Z6 (x:Int):Int:=if 0<x then x else 0
def Hx (g:Gr) (x:Nat→Int):Int:=B7 (fun v=>Z6 (BC g x v)) g.N
theorem Tq {g:Gr} (hg:g.Ok) {x:Nat→Int} (h:∀ v,v<g.N→BC g x v≤0):∀ v,v<g.N→BC g x v=0:=fun v hv=>by
 have h1:=over_all g hg x
 rcases Tp (BC g x v) 0 with h2 | h2
 ·have h3:=RN (f:=fun v => -BC g x v) (k:=g.N) (j:=v) (fun i hi=>by have:=h i hi; omega) hv (by omega);rw [NG,h1] at h3;omega
 ·have:=h v hv; omega
theorem Xk {g:Gr} {x x':Nat→Int} {u v:Nat} {m:Int} (hmu:m≤BC g x u) (hmv:m ≤ -BC g x v) (h:∀ w,BC g x' w=BC g x w+m*(one (v=w) - one (u=w))) (hu:u<g.N:=by omega) (hm:0<m:=by omega):Hx g x'+m≤Hx g x:=by
 have hne:u≠v:=fun e=>by subst e; omega
 have h1:∀ w,Z6 (BC g x' w)≤Z6 (BC g x w) - one (u=w)*m:=fun w=>by
  rw [h w];unfold one Z6
  by_cases e1:v=w
  ·subst e1;rw [if_pos rfl,if_neg hne]
   split <;> split <;> omega
  ·rw [if_neg e1]
   by_cases e2:u=w
   ·subst e2;rw [if_pos rfl]
    split <;> split <;> omega
   ·rw [if_neg e2]
    split <;> split <;> omega
 have h2:=JY (k:=g.N) fun w _=>h1 w;rw [K4,GY (fun _=>m) hu] at h2;unfold Hx; omega
theorem Xl (g:Gr) (x:Nat→Int):0≤Hx g x:=Hu fun i _=>by unfold Z6; split <;> omega
end Go.Proofs.YtdagmpmdcgedcaaGreat
namespace Go.Proofs.YtdagmpmdcgedcaaGreat
open Go.GV
def Kb (g:Gr) (cap' x p:Nat→Int) (i:Nat):Int:=if 2*x i<cap' i∧g.co i+p (g.f i) - p (g.t i)<0 then cap' i else 2*x i
theorem OW {g:Gr} {cap cap' x p:Nat→Int} (h:Fine g cap x p) (hc:∀ i,i<g.E→2*cap i≤cap' i∧cap' i≤2*cap i+1):Fine g cap' (Kb g cap' x p) p:=by
 refine Fine.of (fun i hi=>?_) (fun i hi hx=>?_) (fun i hi hx=>?_)
 ·obtain ⟨h1,h2⟩:=h.in' i hi; obtain ⟨h3,h4⟩:=hc i hi;unfold Kb; split <;> omega
 ·unfold Kb at hx
  split at hx
  ·omega
  ·rename_i h5
   rcases Tp (g.co i+p (g.f i) - p (g.t i)) 0 with h6 | h6
   ·exact absurd ⟨hx,h6⟩ h5
   ·exact h6
 ·unfold Kb at hx
  split at hx
  ·rename_i h5; omega
  ·exact h.bwd hi (by omega)
def Iz (g:Gr) (cap' x p:Nat→Int) (k i:Nat):Int:=if i<k then Kb g cap' x p i else 2*x i
theorem Z7 {g:Gr} {cap' x p:Nat→Int} {v:Nat} (h:BC g x v=0):BC g (Iz g cap' x p 0) v=0:=by
 have h1:BC g (Iz g cap' x p 0) v=B7 (fun i=>2*((one (g.t i=v) - one (g.f i=v))*x i)) g.E:=Cu fun i _=>by
  unfold Iz; rw [if_neg (by omega),Int.mul_left_comm]
 rw [h1,RM];show 2*BC g x v=0;omega
theorem Z9 {g:Gr} {cap' x p:Nat→Int} {k:Nat} (v:Nat) (hk:k<g.E:=by omega):BC g (Iz g cap' x p (k+1)) v=BC g (Iz g cap' x p k) v+(Kb g cap' x p k - 2*x k)*(one (g.t k=v) - one (g.f k=v)):=by
 obtain ⟨b,c,-⟩:=JZ g k;have h:=Qu g (Kb g cap' x p k - 2*x k) (Iz g cap' x p k) (a:=2*k) (by omega) v;rw [b,c] at h;rw [← h]
 congr 1
 funext i
 have m1:∀ {k:Nat},i<k→Iz g cap' x p k i=Kb g cap' x p i:=fun h=>if_pos h;have m2:∀ {k:Nat},¬ i<k→Iz g cap' x p k i=2*x i:=fun h=>if_neg h;unfold IK;rw [show 2*k / 2=k by omega,if_pos (show 2*k % 2=0 by omega)]
 by_cases e:i=k
 ·subst e;rw [if_pos rfl,m1 (by omega),m2 (by omega)]; omega
 ·rw [if_neg e]
  by_cases e2:i<k
  ·rw [m1 (by omega),m1 e2]
  ·rw [m2 (by omega),m2 e2]
theorem Adg {g:Gr} {cap' x p:Nat→Int} {i:Nat} (hi:i<g.E):Iz g cap' x p g.E i=Kb g cap' x p i:=if_pos hi
theorem Lj {g:Gr} {x y:Nat→Int} (h:∀ i,i<g.E→x i=y i) (v:Nat):BC g x v=BC g y v:=Cu fun i hi=>by rw [h i hi]
theorem Kc {g:Gr} {x:Nat→Int} {c:Int} (v:Nat):∀ {k:Nat},(∀ i,i<k→0≤x i∧x i≤c) → -(k*c)≤DS g x k v∧DS g x k v≤k*c
 | 0,_=>by show -(((0:Nat):Int)*c)≤0∧(0:Int)≤((0:Nat):Int)*c; omega
 | k+1,h=>by
  obtain ⟨h1,h2⟩:=Kc (g:=g) v (k:=k) fun i hi=>h i (by omega);obtain ⟨h3,h4⟩:=h k (by omega);have e:((k+1:Nat):Int)*c=k*c+c:=by rw [Int.natCast_add,Int.add_mul]; simp
  show _≤DS g x k v+(one (g.t k=v) - one (g.f k=v))*x k∧DS g x k v+(one (g.t k=v) - one (g.f k=v))*x k≤_;rw [e];unfold one
  split <;> split <;> omega
theorem Ts {g:Gr} {cap x p:Nat→Int} (h:Fine g cap x p):Fea (((List.range (2*g.E)).filter fun a=>decide (0<CC cap x a)).map fun a=>(g.u a,g.v a,g.c a)) p:=fun b hb=>by
 rw [List.mem_map] at hb;obtain ⟨a,ha,rfl⟩:=hb;rw [List.mem_filter,List.mem_range,decide_eq_true_eq] at ha;have:=h.fit a ha.1 ha.2;unfold Gr.len at this;dsimp only; omega
theorem ZA {g:Gr} {cap x p q:Nat→Int} (h:Fine g cap x p) (hq:Fea (((List.range (2*g.E)).filter fun a=>decide (0<CC cap x a)).map fun a=>(g.u a,g.v a,g.c a)) q):Fine g cap x q:=by
 refine ⟨h.in',fun a ha hr=>?_⟩;have:=hq (g.u a,g.v a,g.c a) (List.mem_map.2 ⟨a,List.mem_filter.2 ⟨List.mem_range.2 ha,decide_eq_true hr⟩,rfl⟩);unfold Gr.len;dsimp only at this; omega
end Go.Proofs.YtdagmpmdcgedcaaGreat
namespace Go.Proofs.YtdagmpmdcgedcaaGreat
open Go.GV
attribute [local irreducible] AB W Wq Wt
structure Ed where
 f:Int
 t:Int
 cap:Int
 cost:Int
def CI (e:Ed):List Value:=[.int .i64 e.f,.int .i64 e.t,.int .i64 e.cap,.int .i64 e.cost]
theorem Hy (e:Ed):∀ v∈CI e,AO v=true:=fun v hv=>by
 simp only [CI,List.mem_cons,List.not_mem_nil,or_false] at hv
 rcases hv with rfl | rfl | rfl | rfl <;> rfl
def I64 (x:Int):Prop := -9223372036854775808≤x∧x≤9223372036854775807
structure Ed.In (e:Ed):Prop where
 f:I64 e.f
 t:I64 e.t
 cap:I64 e.cap
 cost:I64 e.cost
def LR (N i:Int):Bool:=decide (0≤i) && decide (i<N)
def FK (N:Int) (e:Ed):Bool:=LR N e.f && (LR N e.t && (decide (0≤e.cap) && (decide (e.cap≤4503599627370496) && (decide (-1000≤e.cost) && decide (e.cost≤1000)))))
def GO (e:Ed):Nat:=e.cap.toNat*e.cost.natAbs
def FM (es:List Ed):Nat:=(es.map GO).sum
def Cw (N:Int) (es:List Ed):Bool:=(decide (1≤N) && decide (N≤40)) && (decide (es.length≤200) && (es.all (FK N) && decide (FM es≤4611686018427387904)))
def Ec (N:Int) (a:Option Addr) (n c:Nat):Value := .agg #[.int .i64 N,.slice a n c]
theorem VW (N:Int) (a:Option Addr) (n c:Nat) (i:Int) (w:World):Ret Tryz.prog 262 #[Ec N a n c,.int .i64 i] w fun v w'=>v = .bool (LR N i)∧Ext [] w w':=by
 obtain ⟨w0,rfl⟩:∃ w0,w0=w:=⟨_,rfl⟩;have H:=Ctx.start w0 [];refine Aw (fn:=Tryz.f262) Tryz.func262 U [Ec N a n c,.int .i64 i] U (by kernel_rfl) ?_;refine Af (Bv [.int .i64 N,.slice a n c] (.agg _) U U H ?_);rintro b2 w - H;refine Ai U (Ab (Aa (Af (Ae U (C4 U U (AE U (AY 7 U ?_ ?_)))))))
 ·intro h1;replace h1:=AJ h1;refine Ae U (Ag Fl U (AM Ca U H at0 U (Bj U U (AN U (.bool _) U (Ai U (Ab (Aa (A4 (AD (v:=(.bool _)) U U U ?_)))))))));exact ⟨congrArg Value.bool (by unfold LR; rw [Bool.eq_iff_iff]; simp_all; try omega),H.ext⟩
 ·intro h2;replace h2:=AK h2;refine Ah U (Ah U (Ah U (Ah U (AU U (.bool _) U (Ai U (Ab (Aa (A4 (AD (v:=(.bool _)) U U U ?_)))))))));exact ⟨congrArg Value.bool (by unfold LR; rw [Bool.eq_iff_iff]; simp_all; try omega),H.ext⟩
theorem Ajl (x:Int) (w:World) (h1: -9223372036854775808<x:=by omega) (h2:x≤9223372036854775807:=by omega):Ret Tryz.prog 243 #[.int .i64 x] w fun v w'=>v = .int .u64 (x.natAbs:Int)∧w=w':=by
 obtain ⟨w0,rfl⟩:∃ w0,w0=w:=⟨_,rfl⟩;refine Aw (fn:=Tryz.f243) Tryz.func243 U [.int .i64 x] U (by kernel_rfl) ?_;refine Af (Ad U (Ab (Aa (Af (Ae U (Ae U (KY U U ?_)))))));refine Ji U U ?_;rw [show max x (-x)=(x.natAbs:Int) by omega];refine DM U Xh EV ?_;refine Ad U (Ab (Aa (A4 (AD (v:=(.int _ _)) U U U ?_))));exact ⟨rfl,rfl⟩
set_option maxRecDepth 20000 in
theorem Adh (N:Int) (a:Option Addr) (n c:Nat) (e:Ed) (w:World):Ret Tryz.prog 241 #[Ec N a n c,.agg (CI e).toArray] w fun v w'=>v = .bool (FK N e)∧Ext [] w w':=by
 obtain ⟨w0,rfl⟩:∃ w0,w0=w:=⟨_,rfl⟩;have H:=Ctx.start w0 [];refine Aw (fn:=Tryz.f241) Tryz.func241 U [Ec N a n c,.agg (CI e).toArray] U (by kernel_rfl) ?_;refine Af (Bv [.int .i64 N,.slice a n c] (.agg _) U U H ?_);rintro b2 w - H;refine Bv (CI e) (.agg _) U U H ?_;rintro b3 w - H;refine Ai U (Ab (Aa (Aq (A0 (Aq (Af (Cl Df CL U H at1 U (Ag FW U (AM Ca U H at0 U (Al YZ (VW N a n c e.f _) U ?_))))))))));rintro v w ⟨rfl,hx9⟩;replace H:=H.call hx9;refine BA U (Ai U (Ab (Aa (CX 5 U ?_ ?_))))
 ·intro h1;replace h1:=BE h1;refine Au (Aa (Dz U (Af (Ai U (Ab (Aa (A4 (AA (Ao (AD (v:=(.bool _)) U U U ?_))))))))));exact ⟨congrArg Value.bool (by unfold FK; simp_all; try omega),H.ext⟩
 ·intro h2;replace h2:=BF h2;refine Af (Cl Df CL U H at1 U (Ag FX U (AM Ca U H at0 U (Al YZ (VW N a n c e.t _) U ?_))));rintro v w ⟨rfl,hx14⟩;replace H:=H.call hx14;refine BA U (Ai U (Ab (Aa (CX 5 U ?_ ?_))))
  ·intro h3;replace h3:=BE h3;refine Au (Aa (Dz U (Af (Ai U (Ab (Aa (A4 (AA (Ao (AD (v:=(.bool _)) U U U ?_))))))))));exact ⟨congrArg Value.bool (by unfold FK; simp_all; try omega),H.ext⟩
  ·intro h4;replace h4:=BF h4;refine Af (Ag EU U (AM Bw U H at0 U (Bj U U (Ai U (Ab (Aa (CX 5 U ?_ ?_)))))))
   ·intro h5;replace h5:=AJ h5;refine Au (Aa (Dz U (Af (Ai U (Ab (Aa (A4 (AA (Ao (AD (v:=(.bool _)) U U U ?_))))))))));exact ⟨congrArg Value.bool (by unfold FK; simp_all; try omega),H.ext⟩
   ·intro h6;replace h6:=AK h6;refine Af (Ag EU U (AM Bw U H at0 U (Cs U U (Ai U (Ab (Aa (CX 5 U ?_ ?_)))))))
    ·intro h7;replace h7:=AJ h7;refine Au (Aa (Dz U (Af (Ai U (Ab (Aa (A4 (AA (Ao (AD (v:=(.bool _)) U U U ?_))))))))));exact ⟨congrArg Value.bool (by unfold FK; simp_all; try omega),H.ext⟩
    ·intro h8;replace h8:=AK h8;refine Af (Ag GX U (AM Bw U H at0 U (Bj U U (Ai U (Ab (Aa (CX 5 U ?_ ?_)))))))
     ·intro h9;replace h9:=AJ h9;refine Au (Aa (Dz U (Af (Ai U (Ab (Aa (A4 (AA (Ao (AD (v:=(.bool _)) U U U ?_))))))))));exact ⟨congrArg Value.bool (by unfold FK; simp_all; try omega),H.ext⟩
     ·intro h10;replace h10:=AK h10;refine Az (Ag GX U (AM Bw U H at0 U (Cs U U (Ai U (Ab (Aa (CX 5 U ?_ ?_)))))))
      ·intro h11;replace h11:=AJ h11;refine Af (Ai U (Ab (Aa (A4 (AA (Ao (AD (v:=(.bool _)) U U U ?_)))))));exact ⟨congrArg Value.bool (by unfold FK; simp_all; try omega),H.ext⟩
      ·intro h12;replace h12:=AK h12;refine Au (A5 (Aa (Af (Ai U (Ab (Aa (A4 (AD (v:=(.bool _)) U U U ?_))))))));exact ⟨congrArg Value.bool (by unfold FK; simp_all; try omega),H.ext⟩
theorem ZB (x y:Nat) (w:World) (hx:x≤4503599627370496:=by omega) (hy:y≤1000:=by omega):Ret Tryz.prog 242 #[.int .u64 (x:Int),.int .u64 (y:Int)] w fun v w'=>v = .tuple #[.int .u64 0,.int .u64 ((x*y:Nat):Int)]∧w=w':=by
 obtain ⟨w0,rfl⟩:∃ w0,w0=w:=⟨_,rfl⟩;have hm:∀ z:Nat,z &&& 4294967295=z % 4294967296:=fun z=>Nat.and_two_pow_sub_one_eq_mod z 32;obtain ⟨x0,hx0⟩:∃ x0,x0=x % 4294967296:=⟨_,rfl⟩;obtain ⟨x1,hx1⟩:∃ x1,x1=x / 4294967296:=⟨_,rfl⟩;have hp0:x0*y≤4294967296*1000:=Nat.mul_le_mul (by omega) hy;have hp1:x1*y≤1048576*1000:=Nat.mul_le_mul (by omega) hy;have hxy:x*y≤4503599627370496*1000:=Nat.mul_le_mul hx hy;refine Aw (fn:=Tryz.f242) Tryz.func242 U [.int .u64 (x:Int),.int .u64 (y:Int)] U (by kernel_rfl) ?_;refine Af (Ad U (Ad U (Ab (Aa (Af (Ae U (Jk (b:=4294967295) U U U ?_)))))));rw [hm,← hx0];refine Ad U (Ab (Aa (Af (Ae U (EZ (n:=32) U U ?_)))));rw [show x / 2 ^ 32=x1 from hx1.symm];refine Ad U (Ab (Aa (Af (Ae U (Jk (b:=4294967295) U U U ?_)))));rw [hm,show y % 4294967296=y by omega]
 refine Ad U (Ab (Aa (Af (Ae U (EZ (n:=32) U U ?_)))));rw [show y / 2 ^ 32=0 by omega];refine Ad U (Ab (Aa (Af (Ae U (Ae U (Hk U U U (Int.mul_nonneg (by omega) (by omega)) (by rw [← Int.natCast_mul]; omega) ?_))))));rw [← Int.natCast_mul];refine Ad U (Ab (Aa (Af (Ae U (Ae U (Hk U U U (Int.mul_nonneg (by omega) (by omega)) (by rw [← Int.natCast_mul]; omega) ?_))))));rw [← Int.natCast_mul];refine Ae U (EZ (n:=32) U U ?_);refine DR U U ?_;rw [← Int.natCast_add];refine Ad U (Ab (Aa (Af (Ae U (Jk (b:=4294967295) U U U ?_)))));rw [hm];refine Ad U (Ab (Aa (Af (Ae U (EZ (n:=32) U U ?_)))));rw [show (x1*y+x0*y / 2 ^ 32) / 2 ^ 32=0 by omega]
 refine Ad U (Ab (Aa (Af (Ae U (Ae U (Ae U (Hk U U U (by show (0:Int)≤(x0:Int)*((0:Nat):Int); omega) (by show (x0:Int)*((0:Nat):Int)≤_; omega) ?_)))))));rw [show (x0:Int)*((0:Nat):Int)=0 by omega];refine DR U U ?_;rw [show ((((x1*y+x0*y / 2 ^ 32) % 4294967296:Nat):Int)+0)=(((x1*y+x0*y / 2 ^ 32) % 4294967296:Nat):Int) by omega];refine Ad U (Ab (Aa (Af (Ae U (Ae U (Hk U U U (by show (0:Int)≤(x1:Int)*((0:Nat):Int); omega) (by show (x1:Int)*((0:Nat):Int)≤_; omega) ?_))))));rw [show (x1:Int)*((0:Nat):Int)=0 by omega];refine Ae U (DR U U ?_);refine Ae U (EZ (n:=32) U U ?_);rw [show (x1*y+x0*y / 2 ^ 32) % 4294967296 / 2 ^ 32=0 by omega];refine DR U U ?_;refine Ad U (Ab (Aa (Af (Ae U (Ae U (Hk U U U (Int.mul_nonneg (by omega) (by omega)) (by rw [← Int.natCast_mul]; omega) ?_))))))
 rw [← Int.natCast_mul];refine Ad U (Ab (Aa (A4 (BL (v1:=(.int _ _)) (v2:=(.int _ _)) U U U U ?_))));exact ⟨rfl,rfl⟩
theorem UW {es:List Ed} {i:Nat} {e:Ed} (h:es[i]? = some e):FM (es.take (i+1))=FM (es.take i)+GO e:=by
 unfold FM;rw [Fj h,List.map_append,List.sum_append]; simp
theorem UX (es:List Ed) (i:Nat):FM (es.take i)≤FM es:=by
 unfold FM;have h:(es.map GO).sum=((es.take i).map GO).sum+((es.drop i).map GO).sum:=by rw [← List.sum_append,← List.map_append,List.take_append_drop]
 omega
theorem EC {N:Int} {e:Ed} (h:FK N e=true):0≤e.f∧e.f<N∧0≤e.t∧e.t<N∧0≤e.cap∧e.cap≤4503599627370496 ∧ -1000≤e.cost∧e.cost≤1000:=by
 unfold FK LR at h;simp only [Bool.and_eq_true,decide_eq_true_eq] at h;omega
theorem Eh {α:Type} {p:α→Bool} {l:List α} {i:Nat} {x:α} (h:l[i]? = some x) (hp:p x=false):l.all p=false:=by
 rw [List.all_eq_false];exact ⟨x,List.mem_of_getElem? h,by rw [hp]; simp⟩
theorem Fe {α:Type} {p:α→Bool} {l:List α} (h:∀ k x,k<l.length→l[k]? = some x→p x=true):l.all p=true:=by
 rw [List.all_eq_true];intro x hx;obtain ⟨k,hk⟩:=List.getElem?_of_mem hx;exact h k x (List.getElem?_eq_some_iff.1 hk).1 hk
set_option maxRecDepth 20000 in
set_option maxHeartbeats 2000000 in
theorem LS (N:Int) (a:Option Addr) (n c:Nat) (es:List Ed) (w:World) (R:Rd w a 4 CI es) (hn:es.length=n) (_hN:I64 N):Ret Tryz.prog 209 #[Ec N a n c] w fun v w'=>v = .bool (Cw N es)∧Ext [] w w':=by
 subst hn;obtain ⟨w0,rfl⟩:∃ w0,w0=w:=⟨_,rfl⟩;have H:=Ctx.start w0 [];refine Aw (fn:=Tryz.f209) Tryz.func209 U [Ec N a es.length c] U (by kernel_rfl) ?_;refine Af (Bv [.int .i64 N,.slice a es.length c] (.agg _) U U H ?_);rintro b1 w - H;refine Ai U (Ab (Aa (Aq (Af (BU (α:=Unit) 4194048 (fun _=>[(21,.bool (!((decide (1≤N) && decide (N≤40)) && decide (es.length≤200))))]) (fun _ w'=>Ctx w0 [] w' [(b1,Bl 51 [.int .i64 N,.slice a es.length c])]) U ?_ ?_)))))
 ·refine Ag Fl U (AM Ca U H at0 U (Bj U U (AE U (AY 11 U ?_ ?_))))
  ·intro h1;replace h1:=AJ h1;refine Ah U (Ah U (Ah U (AN U (.bool _) U (AE U (Ah U (Ah U (Ah U (Ah U (AN U (.bool _) U ?_)))))))));refine Ab ?_;exact ⟨rfl,(),rfl,⟨congrArg Value.bool (by rw [Bool.eq_iff_iff]; simp_all; try omega),trivial⟩,H⟩
  ·intro h2;replace h2:=AK h2;refine Ag Fl U (AM Ca U H at0 U (Cs U U (AU U (.bool _) U (AE U (AY 16 U ?_ ?_)))))
   ·intro h3;replace h3:=AJ h3;refine Ah U (Ah U (Ah U (Ah U (AN U (.bool _) U (Ab ?_)))));exact ⟨rfl,(),rfl,⟨congrArg Value.bool (by rw [Bool.eq_iff_iff]; simp_all; try omega),trivial⟩,H⟩
   ·intro h4;replace h4:=AK h4;refine Ag Dv U (AM Fs U H at0 U (Bi Ds U (Cs U U (AU U (.bool _) U (Ab ?_)))));exact ⟨rfl,(),rfl,⟨congrArg Value.bool (by rw [Bool.eq_iff_iff]; simp_all; try omega),trivial⟩,H⟩
 rintro - j21 w H;refine Ap _ U ?_ ?_
 ·intro h1;replace h1:=BE h1;refine Af (Ai U (Ab (Aa (A4 (Ao (AD (v:=(.bool _)) U U U ?_))))));exact ⟨congrArg Value.bool (by unfold Cw; rw [← Bool.and_assoc,show ((decide (1≤N) && decide (N≤40)) && decide (es.length≤200))=false by simpa using h1]; rfl),H.ext⟩
 ·intro h1;replace h1:=BF h1;have h1':((decide (1≤N) && decide (N≤40)) && decide (es.length≤200))=true:=by simpa using h1
  have hrN:Cw N es=(es.all (FK N) && decide (FM es≤4611686018427387904)):=by unfold Cw; rw [← Bool.and_assoc,h1']; rfl
  have hn2:es.length≤200:=by simp only [Bool.and_eq_true,decide_eq_true_eq] at h1'; omega
  refine Au (Aa (Af (Ad U (Ab (Aa (Aq (Af (Ag Dv U (AM Fs U H at0 U (Bi Ds U (Ae U ?_)))))))))));refine Ab (Aa (A0 (Bt 18014398475927788 (α:=Nat) (fun i=>[(25,.int .i64 (i:Int)),(3,.int .u64 ((4611686018427387904 - FM (es.take i):Nat):Int))]) (fun i w'=>i≤es.length∧Ctx w0 [] w' [(b1,Bl 51 [.int .i64 N,.slice a es.length c])]∧FM (es.take i)≤4611686018427387904∧∀ (k:Nat) (e:Ed),k<i→es[k]? = some e→FK N e=true) (fun i=>es.length - i) 0 U ?_ ?_ ?_)))
  ·exact ⟨rfl,rfl,trivial⟩
  ·exact ⟨Nat.zero_le _,H,Nat.zero_le _,fun k e h=>absurd h (Nat.not_lt_zero _)⟩
  ·rintro i j w ⟨hi,H,hpr,hb⟩;refine Af (Bj U U (Ab (Aa (Aq (Ap _ U ?_ ?_)))))
   ·intro h2;replace h2:=AJ h2;obtain ⟨e,he⟩:=A8 (l:=es) (i:=i);have hps:=UW he;have hpt:=UX es (i+1);refine Au (Aa (Aq (A0 (Af (AS R Ds Dp U U (by rfl) ?_)))));refine Cj _ JS Dp U U ((R.ext0 H.ext).row he U) ?_;refine AX Ht H ?_;rintro b5 w - H;refine Bm Dp U U U (by exact Hy _) H at0 U ?_;rintro w H;refine Ab (Aa (Aq (Af (Cl Df CL U H at1 U (Cl JS Dp U H at0 U (Al Aif (Adh N a es.length c e _) U ?_))))));rintro v w ⟨rfl,hx31⟩;replace H:=H.call hx31;refine BA U (Ab (Aa (Ap _ U ?_ ?_)))
    ·intro h3;replace h3:=BE h3;refine Af (Ai U (Ab (Aa (A4 (Ao (AA (Ao (Ao (AA (Ao (AD (v:=(.bool _)) U U U ?_)))))))))));exact ⟨congrArg Value.bool (by rw [hrN,Eh he (by simpa using h3)]; rfl),H.ext⟩
    ·intro h3;replace h3:=BF h3;have h3':FK N e=true:=by simpa using h3
     obtain ⟨-,-,-,-,q1,q2,q3,q4⟩:=EC h3';obtain ⟨cp,hcp⟩:∃ cp:Nat,e.cap=(cp:Int):=⟨e.cap.toNat,by omega⟩;have hpe:GO e=cp*e.cost.natAbs:=by unfold GO; rw [hcp,Int.toNat_natCast]
     have hpm:cp*e.cost.natAbs≤4503599627370496*1000:=Nat.mul_le_mul (by omega) (by omega);obtain ⟨w5,rfl⟩:∃ z,z=w:=⟨_,rfl⟩;have hb5:=H.get at0;have hk5:∀ {z:World},Ext [] w5 z→z.heap[b5]? = some (Bl 59 (CI e)):=fun {z} h=>by rw [h.block b5 (Ba hb5) (by simp)]; exact hb5
     have hD:=Ext.drew [] w5;refine Au (Aa (Cq [([0,1,2,3,4],5),([],6),([7,8,9,10],11)] (fun z=>Ext [] w5 z) [] Bs (by kernel_rfl) (hD) ?_));refine AF U U ?_;refine An U EU U (B0 Bw U (fun _ hx=>(by rw [Aj (hk5 hx)]; rfl)) ?_);rw [hcp];refine U4 U U Xh EV ?_;refine An U GX U (B0 Bw U (fun _ hx=>(by rw [Aj (hk5 hx)]; rfl)) ?_);refine AP ?_;replace H:=H.drew;refine Al Aih (Ajl e.cost _) U ?_;rintro v w ⟨rfl,rfl⟩;refine Ab (BR (hD) (AF U U ?_));refine AP (Al Aig (ZB cp e.cost.natAbs _) U ?_);rintro v w ⟨rfl,rfl⟩;refine Ab (BR (hD) (AF U U ?_));refine DA U (Bu U U (Bu U U (Kw U U (AP (Ad U (Ab (BR (hD) (BH (Aq (Af ?_))))))))));refine Ae U (C9 U U (AE U (Ae U (Ae U (Cs U U (AU U (.bool _) U (Ab (Aa (Ap _ U ?_ ?_)))))))))
     ·intro h4;replace h4:=AJ h4;refine Af (Ai U (Ab (Aa (A4 (Ao (AA (Ao (Ao (AA (Ao (AD (v:=(.bool _)) U U U ?_)))))))))));exact ⟨congrArg Value.bool (by rw [hrN,decide_eq_false (show ¬ FM es≤4611686018427387904 by omega),Bool.and_false]),H.ext⟩
     ·intro h4;replace h4:=AK h4;refine Au (Aa (Az (Ae U (Ae U (KZ U U U ?_)))));refine Ad U (Ab (A5 (Aa (Az (Ax U U ?_)))));refine Ae U (Ab (Aa ?_));refine ⟨i+1,rfl,⟨rfl,congrArg (Value.int .u64) (by rw [hps,hpe]; omega),trivial⟩,⟨by omega,H.tail,by rw [hps,hpe]; omega,fun k y hk hy=>?_⟩,by omega⟩
      rcases Nat.lt_or_ge k i with h7 | h7
      ·exact hb k y h7 hy
      ·obtain rfl:k=i:=by omega
       rw [he] at hy;cases hy;exact h3'
   ·intro h2;replace h2:=AK h2;refine Bq (Am (Am (AG (Aa (Af (Ai U (Ab (Aa (A4 (AD (v:=(.bool _)) U U U ?_))))))))));rw [List.take_of_length_le (by omega)] at hpr;exact ⟨congrArg Value.bool (by rw [hrN,Fe fun k x hk hx=>hb k x (by omega) hx,decide_eq_true hpr]; rfl),H.ext⟩
end Go.Proofs.YtdagmpmdcgedcaaGreat
namespace Go.Proofs.YtdagmpmdcgedcaaGreat
open Go.GV
attribute [local irreducible] AB W Wq Wt
def Ee (x:Int):Value := .int .i64 x
abbrev I1 (x:Int):List Value:=[.int .i64 x]
def inB (e:Ed) (x:Int):Bool:=decide (0≤x) && decide (x≤e.cap)
def Cm (N:Int) (es:List Ed) (fl:List Int):Bool:=(decide (fl.length=es.length) && Cw N es) && (List.zipWith inB es fl).all id
theorem OX {es:List Ed} {fl:List Int} {i:Nat} {e:Ed} {x:Int} (he:es[i]? = some e) (hx:fl[i]? = some x):(List.zipWith inB es fl)[i]? = some (inB e x):=by
 rw [List.getElem?_zipWith,he,hx]
set_option maxRecDepth 20000 in
set_option maxHeartbeats 2000000 in
theorem K6 (N:Int) (a b:Option Addr) (n c m d:Nat) (es:List Ed) (fl:List Int) (w:World) (R:Rd w a 4 CI es) (hn:es.length=n) (hN:I64 N) (Rf:Rd w b 1 I1 fl) (hm:fl.length=m) (hm2:m≤9223372036854775000) :
  Ret Tryz.prog 251 #[Ec N a n c,.slice b m d] w fun v w'=>v = .bool (Cm N es fl)∧Ext [] w w':=by
 subst hn hm;obtain ⟨w0,rfl⟩:∃ w0,w0=w:=⟨_,rfl⟩;have H:=Ctx.start w0 [];refine Aw (fn:=Tryz.f251) Tryz.func251 U [Ec N a es.length c,.slice b fl.length d] U (by kernel_rfl) ?_;refine Af (Bv [.int .i64 N,.slice a es.length c] (.agg _) U U H ?_);rintro b2 w - H;refine Ai U (Ab (Aa (Aq (Af (BU (α:=Unit) 262016 (fun _=>[(17,.bool (!(decide (fl.length=es.length) && Cw N es)))]) (fun _ w'=>Ctx w0 [] w' [(b2,Bl 51 [.int .i64 N,.slice a es.length c])]) U ?_ ?_)))))
 ·refine A3 U (Bi Bg U (Ag Dv U (AM Fs U H at0 U (Bi Ds U (C9 U U (AE U (AY 13 U ?_ ?_)))))))
  ·intro h1;replace h1:=CR h1;refine Ah U (Ah U (Ah U (AN U (.bool _) U (Ab ?_))));exact ⟨rfl,(),rfl,⟨congrArg Value.bool (by rw [Bool.eq_iff_iff]; simp_all; try omega),trivial⟩,H⟩
  ·intro h2;replace h2:=CS h2;refine Cl Df CL U H at0 U (Al R6 (LS N a es.length c es _ (R.ext0 H.ext) U hN) U ?_);rintro v w ⟨rfl,hx15⟩;replace H:=H.call hx15;refine BA U (AU U (.bool _) U (Ab ?_));exact ⟨rfl,(),rfl,⟨congrArg Value.bool (by rw [Bool.eq_iff_iff]; simp_all; try omega),trivial⟩,H⟩
 rintro - j17 w H;refine Ap _ U ?_ ?_
 ·intro h1;replace h1:=BE h1;refine Af (Ai U (Ab (Aa (A4 (Ao (AD (v:=(.bool _)) U U U ?_))))));exact ⟨congrArg Value.bool (by unfold Cm; rw [show (decide (fl.length=es.length) && Cw N es)=false by simpa using h1]; rfl),H.ext⟩
 ·intro h1;replace h1:=BF h1;have h1':(decide (fl.length=es.length) && Cw N es)=true:=by simpa using h1
  have hw:Cm N es fl=(List.zipWith inB es fl).all id:=by unfold Cm; rw [h1']; rfl
  have hle:fl.length=es.length:=by simp only [Bool.and_eq_true,decide_eq_true_eq] at h1'; exact h1'.1
  refine Au (Aa (Aq (Af (A3 U (Bi Bg U (Ae U (Ab (Aa (A0 (Bt 274876858480 (α:=Nat) (fun i=>[(20,.int .i64 (i:Int))]) (fun i w'=>i≤fl.length∧Ctx w0 [] w' [(b2,Bl 51 [.int .i64 N,.slice a es.length c])]∧∀ (k:Nat) (e:Ed) (x:Int),k<i→es[k]? = some e→fl[k]? = some x→inB e x=true) (fun i=>fl.length - i) 0 U ?_ ?_ ?_))))))))))
  ·exact ⟨rfl,trivial⟩
  ·exact ⟨Nat.zero_le _,H,fun k e x h=>absurd h (Nat.not_lt_zero _)⟩
  ·rintro i j w ⟨hi,H,hb⟩;refine Af (Bj U U (Ab (Aa (Aq (Ap _ U ?_ ?_)))))
   ·intro h2;replace h2:=AJ h2;obtain ⟨e,he⟩:=A8 (l:=es) (i:=i);obtain ⟨x,hx⟩:=A8 (l:=fl) (i:=i);refine Au (Aa (Aq (A0 (Af (Ae U (AS Rf Bg B6 U U (by rfl) ?_))))));refine AZ Bw U (((Rf.ext0 H.ext).fld hx U (j:=0) U)) ?_;refine Ad U (Ad U (Ab (Aa (Af (BU (α:=Unit) 137405399040 (fun _=>[(36,.bool (!inB e x))]) (fun _ w'=>Ctx w0 [] w' [(b2,Bl 51 [.int .i64 N,.slice a es.length c])]) U ?_ ?_)))))
    ·refine Ae U (Bj U U (AE U (AY 27 U ?_ ?_)))
     ·intro h3;replace h3:=AJ h3;refine Ah U (Ah U (Ah U (Ah U (Ah U (Ah U (Ah U (Ah U (AN U (.bool _) U (Ab ?_)))))))));exact ⟨rfl,(),rfl,⟨congrArg Value.bool (by unfold inB; rw [Bool.eq_iff_iff]; simp_all; try omega),trivial⟩,H⟩
     ·intro h4;replace h4:=AK h4;refine Ae U (Ag Dv U (AM Fs U H at0 U (Ae U (AS R Ds Dp U U (by rfl) ?_))));refine Ag EU U (AZ Bw U (((R.ext0 H.ext).fld he U (j:=2) U)) ?_);refine Cs U U (AU U (.bool _) U (Ab ?_));exact ⟨rfl,(),rfl,⟨congrArg Value.bool (by unfold inB; rw [Bool.eq_iff_iff]; simp_all; try omega),trivial⟩,H⟩
    rintro - j36 w H;refine Ap _ U ?_ ?_
    ·intro h3;replace h3:=BE h3;refine Af (Ai U (Ab (Aa (A4 (AA (Ao (Ao (AA (Ao (AD (v:=(.bool _)) U U U ?_))))))))));exact ⟨congrArg Value.bool (by rw [hw,Eh (OX he hx) (show id (inB e x)=false by simpa using h3)]),H.ext⟩
    ·intro h3;replace h3:=BF h3;refine Au (A5 (Aa (Az (Ax U U ?_))));refine Ae U (Ab (Aa ?_));refine ⟨i+1,rfl,⟨rfl,trivial⟩,⟨by omega,H,fun k f y hk hf hy=>?_⟩,by omega⟩
     rcases Nat.lt_or_ge k i with h7 | h7
     ·exact hb k f y h7 hf hy
     ·obtain rfl:k=i:=by omega
      rw [he] at hf; rw [hx] at hy;cases hf; cases hy
      simpa using h3
   ·intro h2;replace h2:=AK h2;refine Bq (Am (Am (AG (Aa (Af (Ai U (Ab (Aa (A4 (AD (v:=(.bool _)) U U U ?_))))))))));refine ⟨congrArg Value.bool ?_,H.ext⟩;rw [hw,Fe fun k x hk hx=>?_];rw [List.length_zipWith] at hk;obtain ⟨e,he⟩:=A8 (l:=es) (i:=k);obtain ⟨y,hy⟩:=A8 (l:=fl) (i:=k);rw [OX he hy] at hx;cases hx;exact hb k e y (by omega) he hy
theorem Cv {N:Int} {es:List Ed} {fl:List Int} (h:Cm N es fl=true):fl.length=es.length∧Cw N es=true∧∀ (i:Nat) (e:Ed) (x:Int),es[i]? = some e→fl[i]? = some x→0≤x∧x≤e.cap:=by
 unfold Cm at h;simp only [Bool.and_eq_true,decide_eq_true_eq,List.all_eq_true] at h;refine ⟨h.1.1,h.1.2,fun i e x he hx=>?_⟩;have:=h.2 _ (List.mem_of_getElem? (OX he hx));unfold inB at this
 simpa using this
theorem CD {N:Int} {es:List Ed} (h:Cw N es=true):1≤N∧N≤40∧es.length≤200∧(∀ e∈es,FK N e=true)∧FM es≤4611686018427387904:=by
 unfold Cw at h;simp only [Bool.and_eq_true,decide_eq_true_eq,List.all_eq_true] at h;exact ⟨h.1.1,h.1.2,h.2.1,h.2.2.1,h.2.2.2⟩
def Lk (es:List Ed) (a:Int):Bool:=decide (0≤a) && decide (a<2*es.length)
theorem ZC (N:Int) (a:Option Addr) (n c:Nat) (es:List Ed) (hn:es.length=n) (hb:n≤1000000) (k:Int) (w:World):Ret Tryz.prog 272 #[Ec N a n c,.int .i64 k] w fun v w'=>v = .bool (Lk es k)∧Ext [] w w':=by
 subst hn;obtain ⟨w0,rfl⟩:∃ w0,w0=w:=⟨_,rfl⟩;have H:=Ctx.start w0 [];refine Aw (fn:=Tryz.f272) Tryz.func272 U [Ec N a es.length c,.int .i64 k] U (by kernel_rfl) ?_;refine Af (Bv [.int .i64 N,.slice a es.length c] (.agg _) U U H ?_);rintro b2 w - H;refine Ai U (Ab (Aa (Af (Ae U (C4 U U (AE U (AY 7 U ?_ ?_)))))))
 ·intro h1;replace h1:=AJ h1;refine Ae U (Ag Dv U (AM Fs U H at0 U (Bi Ds U (DE U U ?_))));refine Bj U U (AN U (.bool _) U (Ai U (Ab (Aa (A4 (AD (v:=(.bool _)) U U U ?_))))));exact ⟨congrArg Value.bool (by unfold Lk; rw [Bool.eq_iff_iff]; simp_all; try omega),H.ext⟩
 ·intro h2;replace h2:=AK h2;refine Ah U (Ah U (Ah U (Ah U (Ah U (Ah U (AU U (.bool _) U (Ai U (Ab (Aa (A4 (AD (v:=(.bool _)) U U U ?_)))))))))));exact ⟨congrArg Value.bool (by unfold Lk; rw [Bool.eq_iff_iff]; simp_all; try omega),H.ext⟩
theorem VX (k:Nat) (w:World) (hk:k<9223372036854775808:=by omega):Ret Tryz.prog 283 #[.int .i64 (k:Int)] w fun v w'=>v = .bool (decide (k % 2=1))∧w=w':=by
 obtain ⟨w0,rfl⟩:∃ w0,w0=w:=⟨_,rfl⟩;refine Aw (fn:=Tryz.f283) Tryz.func283 U [.int .i64 (k:Int)] U (by kernel_rfl) ?_;refine Af (Ai U (Ab (Aa (Af (Ae U (Om (b:=1) U U U (by omega) (by omega) ?_))))));rw [Nat.and_one_is_mod];refine Cf U U (Ai U (Ab (Aa (A4 (AD (v:=(.bool _)) U U U ?_)))));exact ⟨congrArg Value.bool (by rw [Bool.eq_iff_iff]; simp; omega),rfl⟩
def HV (e:Ed) (k:Nat):Int × Int × Int:=if k % 2=1 then (e.t,e.f,-e.cost) else (e.f,e.t,e.cost)
theorem Adi (N:Int) (a:Option Addr) (n c:Nat) (es:List Ed) (w:World) (R:Rd w a 4 CI es) (hn:es.length=n) (hb:n≤1000000) (k:Nat) {e:Ed} (he:es[k / 2]? = some e) (hc: -9223372036854775808<e.cost∧e.cost≤9223372036854775807:=by omega):Ret Tryz.prog 276 #[Ec N a n c,.int .i64 (k:Int)] w fun v w'=>v = .tuple #[.int .i64 (HV e k).1,.int .i64 (HV e k).2.1,.int .i64 (HV e k).2.2]∧Ext [] w w':=by
 subst hn;obtain ⟨w0,rfl⟩:∃ w0,w0=w:=⟨_,rfl⟩;have H:=Ctx.start w0 [];have hk:=Ck he;refine Aw (fn:=Tryz.f276) Tryz.func276 U [Ec N a es.length c,.int .i64 (k:Int)] U (by kernel_rfl) ?_;refine Af (Bv [.int .i64 N,.slice a es.length c] (.agg _) U U H ?_);rintro b2 w - H;refine Ad U (Ad U (Ad U (Ab (Aa (Af (Ag Dv U (AM Fs U H at0 U (Ae U (Jl (n:=1) U U U ?_)))))))));rw [show k / 2 ^ 1=k / 2 from rfl];refine AS R Ds Dp U U (by rfl) ?_;refine Cj _ JS Dp U U ((R.ext0 H.ext).row he U) ?_;refine AX Ht H ?_;rintro b7 w - H;refine Bm Dp U U U (by exact Hy _) H at0 U ?_;rintro w H;refine Ab (Aa (Aq (Af (Ae U (Al Zf (VX k _) U ?_)))));rintro v w ⟨rfl,rfl⟩;refine Ab (Aa (Ap _ U ?_ ?_))
 ·intro h1;refine Er (fun x=>x=_) Bs (by kernel_rfl) U ?_;refine A7 FX U (Cn Ca U (by rintro _ rfl; exact H.drew) at0 U ?_);refine A7 FW U (Cn Ca U (by rintro _ rfl; exact H.drew) at0 U ?_);refine A7 GX U (Cn Bw U (by rintro _ rfl; exact H.drew) at0 U ?_);refine WS U U ?_;refine Db U (Db U (Db U (BW ?_)));rintro _ rfl;replace H:=H.drew;refine A4 (Ao (Mq (v1:=(.int _ _)) (v2:=(.int _ _)) (v3:=(.int _ _)) U U U U U ?_));exact ⟨by unfold HV; rw [if_pos (of_decide_eq_true h1)],H.ext⟩
 ·intro h1;refine Au (Aa (Er (fun x=>x=_) Bs (by kernel_rfl) U ?_));refine A7 FW U (Cn Ca U (by rintro _ rfl; exact H.drew) at0 U ?_);refine A7 FX U (Cn Ca U (by rintro _ rfl; exact H.drew) at0 U ?_);refine A7 GX U (Cn Bw U (by rintro _ rfl; exact H.drew) at0 U ?_);refine Db U (Db U (Db U (BW ?_)));rintro _ rfl;replace H:=H.drew;refine A4 (Mq (v1:=(.int _ _)) (v2:=(.int _ _)) (v3:=(.int _ _)) U U U U U ?_);exact ⟨by unfold HV; rw [if_neg (of_decide_eq_false h1)],H.ext⟩
def FN (N:Int) (es:List Ed) (k:Int):Int × Int × Int:=if (Lk es k && Cw N es)=true then HV (es.getD (k.toNat / 2) ⟨0,0,0,0⟩) k.toNat else (0,0,0)
set_option maxRecDepth 20000 in
theorem RU (N:Int) (a:Option Addr) (n c:Nat) (es:List Ed) (w:World) (R:Rd w a 4 CI es) (hn:es.length=n) (hN:I64 N) (k:Int) (hb:n≤1000000:=by omega):Ret Tryz.prog 253 #[Ec N a n c,.int .i64 k] w fun v w'=>v = .tuple #[.int .i64 (FN N es k).1,.int .i64 (FN N es k).2.1,.int .i64 (FN N es k).2.2]∧Ext [] w w':=by
 subst hn;obtain ⟨w0,rfl⟩:∃ w0,w0=w:=⟨_,rfl⟩;have H:=Ctx.start w0 [];refine Aw (fn:=Tryz.f253) Tryz.func253 U [Ec N a es.length c,.int .i64 k] U (by kernel_rfl) ?_;refine Af (Bv [.int .i64 N,.slice a es.length c] (.agg _) U U H ?_);rintro b2 w - H;refine Ad U (Ad U (Ad U (Ab (Aa (Aq (Af (BU (α:=Unit) 65408 (fun _=>[(15,.bool (!(Lk es k && Cw N es)))]) (fun _ w'=>Ctx w0 [] w' [(b2,Bl 51 [.int .i64 N,.slice a es.length c])]) U ?_ ?_)))))))
 ·refine Cl Df CL U H at0 U (Ae U (Al Zc (ZC N a es.length c es U hb k _) U ?_));rintro v w ⟨rfl,hx9⟩;replace H:=H.call hx9;refine BA U (AE U (AY 11 U ?_ ?_))
  ·intro h1;replace h1:=BE h1;refine Ah U (Ah U (Ah U (AN U (.bool _) U (Ab ?_))));exact ⟨rfl,(),rfl,⟨congrArg Value.bool (by rw [Bool.eq_iff_iff]; simp_all),trivial⟩,H⟩
  ·intro h2;replace h2:=BF h2;refine Cl Df CL U H at0 U (Al R6 (LS N a es.length c es _ (R.ext0 H.ext) U hN) U ?_);rintro v w ⟨rfl,hx13⟩;replace H:=H.call hx13;refine BA U (AU U (.bool _) U (Ab ?_));exact ⟨rfl,(),rfl,⟨congrArg Value.bool (by rw [Bool.eq_iff_iff]; simp_all),trivial⟩,H⟩
 rintro - j15 w H;refine Ap _ U ?_ ?_
 ·intro h1;replace h1:=BE h1;refine Af (Ad U (Ad U (Ad U (Ab (Aa (A4 (Ao (Mq (v1:=(.int _ _)) (v2:=(.int _ _)) (v3:=(.int _ _)) U U U U U ?_))))))));exact ⟨by unfold FN; rw [if_neg (by rw [show (Lk es k && Cw N es)=false by simpa using h1]; simp)],H.ext⟩
 ·intro h1;replace h1:=BF h1;have h1':(Lk es k && Cw N es)=true:=by simpa using h1
  have hk:0≤k∧k<2*es.length:=by
   simp only [Bool.and_eq_true] at h1';have:=h1'.1;unfold Lk at this
   simpa using this
  obtain ⟨q,rfl⟩:∃ q:Nat,k=(q:Int):=⟨k.toNat,by omega⟩;obtain ⟨e,he⟩:=A8 (l:=es) (i:=q / 2);have hee:=(CD (Bool.and_eq_true_iff.1 h1').2).2.2.2.1 e (List.mem_of_getElem? he);have hco:=EC hee;have hE:FN N es (q:Int)=HV e q:=by unfold FN; rw [if_pos h1',Int.toNat_natCast,List.getD_eq_getElem?_getD,he]; rfl
  rw [hE];refine Au (Aa (Af (Cl Df CL U H at0 U (Ae U (Al Ai1 (Adi N a es.length c es _ (R.ext0 H.ext) U hb q he) U ?_)))));rintro v w ⟨rfl,hx18⟩;replace H:=H.call hx18;refine A6 U U (A6 U U (A6 U U (Ad U (Ad U (Ad U (Ab (Aa (A4 (Mq (v1:=(.int _ _)) (v2:=(.int _ _)) (v3:=(.int _ _)) U U U U U ?_)))))))));exact ⟨rfl,H.ext⟩
def Nm (e:Ed) (x:Int) (k:Nat):Int:=if k % 2=1 then x else e.cap - x
theorem Adj (N:Int) (a b:Option Addr) (n c m d:Nat) (es:List Ed) (fl:List Int) (w:World) (R:Rd w a 4 CI es) (hn:es.length=n) (hb:n≤1000000) (Rf:Rd w b 1 I1 fl) (hm:fl.length=m) (k:Nat) {e:Ed} {x:Int} (he:es[k / 2]? = some e) (hx:fl[k / 2]? = some x)  (hr: -9223372036854775808≤e.cap - x∧e.cap - x≤9223372036854775807:=by omega):
  Ret Tryz.prog 273 #[Ec N a n c,.slice b m d,.int .i64 (k:Int)] w fun v w'=>v = .int .i64 (Nm e x k)∧Ext [] w w':=by
 subst hn hm;obtain ⟨w0,rfl⟩:∃ w0,w0=w:=⟨_,rfl⟩;have H:=Ctx.start w0 [];have hk:=Ck he;have hkx:=Ck hx;refine Aw (fn:=Tryz.f273) Tryz.func273 U [Ec N a es.length c,.slice b fl.length d,.int .i64 (k:Int)] U (by kernel_rfl) ?_;refine Af (Bv [.int .i64 N,.slice a es.length c] (.agg _) U U H ?_);rintro b3 w - H;refine Ad U (Ab (Aa (Af (A3 U (Ae U (Jl (n:=1) U U U ?_))))));rw [show k / 2 ^ 1=k / 2 from rfl];refine AS Rf Bg B6 U U (by rfl) ?_;refine AZ Bw U (((Rf.ext0 H.ext).fld hx U (j:=0) U)) ?_;refine Ad U (Ab (Aa (Aq (Af (Ae U (Al Zf (VX k _) U ?_))))));rintro v w ⟨rfl,rfl⟩;refine Ab (Aa (Ap _ U ?_ ?_))
 ·intro h1;refine Af (Ae U (Ad U (Ab (Aa (A4 (Ao (AD (v:=(.int _ _)) U U U ?_)))))));exact ⟨by unfold Nm; rw [if_pos (of_decide_eq_true h1)],H.ext⟩
 ·intro h1;refine Au (Aa (Af (Ag Dv U (AM Fs U H at0 U (Ae U (Jl (n:=1) U U U ?_))))));rw [show k / 2 ^ 1=k / 2 from rfl];refine AS R Ds Dp U U (by rfl) ?_;refine Ag EU U (AZ Bw U (((R.ext0 H.ext).fld he U (j:=2) U)) ?_);refine Ae U (Br U U ?_);refine Ad U (Ab (Aa (A4 (AD (v:=(.int _ _)) U U U ?_))));exact ⟨by unfold Nm; rw [if_neg (of_decide_eq_false h1)],H.ext⟩
def KP (N:Int) (es:List Ed) (fl:List Int) (k:Int):Int:=if (Lk es k && Cm N es fl)=true then Nm (es.getD (k.toNat / 2) ⟨0,0,0,0⟩) (fl.getD (k.toNat / 2) 0) k.toNat else 0
set_option maxRecDepth 20000 in
theorem RV (N:Int) (a b:Option Addr) (n c m d:Nat) (es:List Ed) (fl:List Int) (w:World) (R:Rd w a 4 CI es) (hn:es.length=n) (hN:I64 N) (Rf:Rd w b 1 I1 fl) (hm:fl.length=m) (k:Int) (hb:n≤1000000:=by omega) (hm2:m≤9223372036854775000:=by omega):Ret Tryz.prog 248 #[Ec N a n c,.slice b m d,.int .i64 k] w fun v w'=>v = .int .i64 (KP N es fl k)∧Ext [] w w':=by
 subst hn hm;obtain ⟨w0,rfl⟩:∃ w0,w0=w:=⟨_,rfl⟩;have H:=Ctx.start w0 [];refine Aw (fn:=Tryz.f248) Tryz.func248 U [Ec N a es.length c,.slice b fl.length d,.int .i64 k] U (by kernel_rfl) ?_;refine Af (Bv [.int .i64 N,.slice a es.length c] (.agg _) U U H ?_);rintro b3 w - H;refine Ad U (Ab (Aa (Aq (Af (BU (α:=Unit) 130944 (fun _=>[(16,.bool (!(Lk es k && Cm N es fl)))]) (fun _ w'=>Ctx w0 [] w' [(b3,Bl 51 [.int .i64 N,.slice a es.length c])]) U ?_ ?_)))))
 ·refine Cl Df CL U H at0 U (Ae U (Al Zc (ZC N a es.length c es U hb k _) U ?_));rintro v w ⟨rfl,hx9⟩;replace H:=H.call hx9;refine BA U (AE U (AY 11 U ?_ ?_))
  ·intro h1;replace h1:=BE h1;refine Ah U (Ah U (Ah U (Ah U (AN U (.bool _) U (Ab ?_)))));exact ⟨rfl,(),rfl,⟨congrArg Value.bool (by rw [Bool.eq_iff_iff]; simp_all),trivial⟩,H⟩
  ·intro h2;replace h2:=BF h2;refine Cl Df CL U H at0 U (A3 U (Al R8 (K6 N a b es.length c fl.length d es fl _ (R.ext0 H.ext) U hN (Rf.ext0 H.ext) U hm2) U ?_));rintro v w ⟨rfl,hx14⟩;replace H:=H.call hx14;refine BA U (AU U (.bool _) U (Ab ?_));exact ⟨rfl,(),rfl,⟨congrArg Value.bool (by rw [Bool.eq_iff_iff]; simp_all),trivial⟩,H⟩
 rintro - j16 w H;refine Ap _ U ?_ ?_
 ·intro h1;replace h1:=BE h1;refine Af (Ad U (Ab (Aa (A4 (Ao (AD (v:=(.int _ _)) U U U ?_))))));exact ⟨by unfold KP; rw [if_neg (by rw [show (Lk es k && Cm N es fl)=false by simpa using h1]; simp)],H.ext⟩
 ·intro h1;replace h1:=BF h1;have h1':(Lk es k && Cm N es fl)=true:=by simpa using h1
  have hk:0≤k∧k<2*es.length:=by
   simp only [Bool.and_eq_true] at h1';have:=h1'.1;unfold Lk at this
   simpa using this
  obtain ⟨q,rfl⟩:∃ q:Nat,k=(q:Int):=⟨k.toNat,by omega⟩;obtain ⟨hl,hri,hin⟩:=Cv (Bool.and_eq_true_iff.1 h1').2;obtain ⟨e,he⟩:=A8 (l:=es) (i:=q / 2);obtain ⟨x,hx⟩:=A8 (l:=fl) (i:=q / 2);have hee:=(CD hri).2.2.2.1 e (List.mem_of_getElem? he);have hco:=EC hee;have hxx:=hin _ e x he hx;have hE:KP N es fl (q:Int)=Nm e x q:=by unfold KP; rw [if_pos h1',Int.toNat_natCast,List.getD_eq_getElem?_getD,he,List.getD_eq_getElem?_getD,hx]; rfl
  rw [hE];refine Au (Aa (Af (Cl Df CL U H at0 U (A3 U (Ae U (Al Aiy (Adj N a b es.length c fl.length d es fl _ (R.ext0 H.ext) U hb (Rf.ext0 H.ext) U q he hx) U ?_))))));rintro v w ⟨rfl,hx20⟩;replace H:=H.call hx20;refine Ad U (Ab (Aa (A4 (AD (v:=(.int _ _)) U U U ?_))));exact ⟨rfl,H.ext⟩
end Go.Proofs.YtdagmpmdcgedcaaGreat
namespace Go.Proofs.YtdagmpmdcgedcaaGreat
open Go.GV
attribute [local irreducible] AB W Wq Wt
abbrev ptr (b:Nat):Value := .pointer (some ⟨b,0,none⟩)
def tab (f:Nat→Int) (n:Nat):List Int:=(List.range n).map f
theorem CV (f:Nat→Int) (n:Nat):(tab f n).length=n:=by unfold tab; simp
theorem BT {f:Nat→Int} {n i:Nat} (h:i<n):(tab f n)[i]? = some (f i):=DO h
theorem Ajm (l:List Int):tab (fun i=>l.getD i 0) l.length=l:=by
 apply List.ext_getElem?;intro j
 by_cases hj:j<l.length
 ·rw [BT hj,List.getD_eq_getElem?_getD,List.getElem?_eq_getElem hj]; rfl
 ·rw [List.getElem?_eq_none (by rw [CV]; omega),List.getElem?_eq_none (by omega)]
theorem OY {f:Nat→Int} {n i:Nat} {x:Int} (h:(tab f n)[i]? = some x):i<n∧x=f i:=by
 have h1:=Ck h;rw [CV] at h1;rw [BT h1] at h;cases h;exact ⟨h1,rfl⟩
abbrev BS (f:Nat→Int) (n:Nat):List Value:=(List.range n).map fun i => .int .i64 (f i)
theorem Xm (f:Nat→Int) (n:Nat):BS f n=(tab f n).flatMap I1:=by
 unfold tab I1;rw [Yw,List.map_map]; rfl
theorem Cx {w:World} {b:Nat} {t:TypeId} {f:Nat→Int} {n:Nat} (h:w.heap[b]? = some (Bl t (BS f n))):Rd w (some ⟨b,0,none⟩) 1 I1 (tab f n) :=
 Rd.of_bl (r:=[]) (enc:=I1) (xs:=tab f n) h (by rw [Xm,List.append_nil]) fun _ _=>rfl
def e0:Ed:=⟨0,0,0,0⟩
def grE (N:Int) (es:List Ed):Gr:=⟨N.toNat,es.length,fun i=>(es.getD i e0).f.toNat,fun i=>(es.getD i e0).t.toNat,fun i=>(es.getD i e0).cost⟩
def Cr (es:List Ed) (i:Nat):Int:=(es.getD i e0).cap
def flE (fl:List Int) (i:Nat):Int:=fl.getD i 0
theorem Bo {α:Type} {l:List α} {i:Nat} {x d:α} (h:l[i]? = some x):l.getD i d=x:=by rw [List.getD_eq_getElem?_getD,h]; rfl
def Nn (N:Int) (es:List Ed) (fl:List Int):List Int:=tab (BC (grE N es) (flE fl)) N.toNat
def FE (N:Int) (es:List Ed) (fl:List Int):Bool:=Cm N es fl && (Nn N es fl).all fun x=>decide (x=0)
theorem ZD (N:Int) (a b:Option Addr) (n c m d:Nat) (w:World):Ret Tryz.prog 275 #[Ec N a n c,.slice b m d] w fun v w'=>∃ b2 b3,v = .func (.func 284) #[] #[ptr b2,ptr b3]∧w'.heap[b2]? = some (Bl 51 [.int .i64 N,.slice a n c])∧w'.heap[b3]? = some (Bl 35 [.slice b m d])∧w.heap.size≤b2∧w.heap.size≤b3∧b2≠b3∧Ext [] w w':=by
 obtain ⟨w0,rfl⟩:∃ w0,w0=w:=⟨_,rfl⟩;have H:=Ctx.start w0 [];refine Aw (fn:=Tryz.f275) Tryz.func275 U [Ec N a n c,.slice b m d] U (by kernel_rfl) ?_;refine Af (Bv [.int .i64 N,.slice a n c] (.agg _) U U H ?_);rintro b2 w - H;refine Bv _ (.slice _ _ _) U U H ?_;rintro b3 w - H;refine CG U .nilFunc U ?_;refine Ab (Aa (Af (BQ [.pointer _,.pointer _] U (CG U (.func _ _ _) U ?_))));refine Ab (Aa (A4 (AD (v:=(.func _ _ _)) U U U ?_)));have ho:∀ x∈[(b3,Bl 35 [.slice b m d]),(b2,Bl 51 [.int .i64 N,.slice a n c])],w0.heap.size≤x.1:=fun x hx=>(H.own x hx).elim (fun h=>by cases h) id;exact ⟨b2,b3,rfl,H.get at1,H.get at0,ho (b2,_) (List.mem_cons_of_mem _ (List.mem_cons_self ..)),ho (b3,_) (List.mem_cons_self ..),H.ne at1 at0 (by decide),H.ext⟩
def VY (p:Ed × Int):List Value:=[.agg (CI p.1).toArray,.int .i64 p.2]
structure EdgeK (b2 b3:Nat) (N:Int) (a b:Option Addr) (n c m d:Nat) (es:List Ed) (fl:List Int) (w:World):Prop where
 h2:w.heap[b2]? = some (Bl 51 [.int .i64 N,.slice a n c])
 h3:w.heap[b3]? = some (Bl 35 [.slice b m d])
 R:Rd w a 4 CI es
 Rf:Rd w b 1 I1 fl
theorem Adk {α β:Type} {l:List α} {m:List β} {i:Nat} {x:α} {y:β} (h1:l[i]? = some x) (h2:m[i]? = some y):(l.zip m)[i]? = some (x,y):=by
 rw [List.getElem?_zip_eq_some]; exact ⟨h1,h2⟩
set_option maxRecDepth 20000 in
set_option maxHeartbeats 2000000 in
theorem Xn {b2 b3:Nat} {N:Int} {a b:Option Addr} {n c m d:Nat} {es:List Ed} {fl:List Int} (hn:es.length=n) (hm:fl.length=m) (hnm:n=m) (hn2:n≤1000000:=by omega):Rj Tryz.prog 284 #[ptr b2,ptr b3] [] (fun _ w=>EdgeK b2 b3 N a b n c m d es fl w) ((es.zip fl).map VY):=by
 subst hn hm;intro l w J E hJ0 hJs hEs hK hY;obtain ⟨M0,hJ0⟩:=hJ0;obtain ⟨w0,rfl⟩:∃ w0,w0=w:=⟨_,rfl⟩;have hlen:((es.zip fl).map VY).length=es.length:=by rw [List.length_map,List.length_zip]; omega
 refine Aw (fn:=Tryz.f284) Tryz.func284 U [.func (.yield l) #[] #[],.pointer (some ⟨b2,0,none⟩),.pointer (some ⟨b3,0,none⟩)] U (by kernel_rfl) ?_;have K0:=(hK _ _ _ hJ0).2;refine Af (Ag Dv U (AZ Fs U ((by rw [Aj K0.h2]; rfl)) ?_));refine Bi Ds U (Ae U (Ab (Aa (A0 (Bt 8388144 (α:=Nat) (fun i=>[(9,.int .i64 (i:Int))]) (fun i w'=>i≤es.length∧∃ M,J i M w') (fun i=>es.length - i) 0 U ?_ ?_ ?_)))))
 ·exact ⟨rfl,trivial⟩
 ·exact ⟨Nat.zero_le _,M0,hJ0⟩
 ·rintro i j w ⟨hi,M,hJ⟩;have KK:=(hK _ _ _ hJ).2;have R:=KK.R;have Rf:=KK.Rf;obtain ⟨w1,rfl⟩:∃ w1,w1=w:=⟨_,rfl⟩;have H:=Ctx.start w1 [];refine Af (Bj U U (Ab (Aa (Aq (Ap _ U ?_ ?_)))))
  ·intro h1;replace h1:=AJ h1;obtain ⟨e,he⟩:=A8 (l:=es) (i:=i);obtain ⟨x,hfx⟩:=A8 (l:=fl) (i:=i);refine Au (Aa (Aq (A0 (Af (Ae U (AS R Ds Dp U U (by rfl) ?_))))));refine Cj _ JS Dp U U ((R.ext0 H.ext).row he U) ?_;refine AX Ht H ?_;rintro b5 w - H;refine Ad U (Bm Dp U U U (by exact Hy _) H at0 U ?_);rintro w H;refine Ab (Aa ?_);have hY1:=hY i (VY (e,x)) M w.drew (by rw [List.getElem?_map,Adk he hfx]; rfl) (hJs _ _ _ _ hJ (H.ext.trans (Ext.drew [] w)));have KR:=(hK _ _ _ (hJs _ _ _ _ hJ (H.ext.trans (Ext.drew [] w)))).2;refine Eb 6 Bs (by kernel_rfl) U U ?_;refine Mv U (.func _ _ _) U ?_;refine Ob U JS Dp U (by rintro _ rfl; exact H.drew) at0 U ?_;refine BX Cg U (by rintro _ rfl; exact ((by rw [Aj KR.h3]; rfl))) ?_;refine Bh U (C5 Rf Bg B6 U U (by rfl) ?_)
   refine BX Bw U (by rintro _ rfl; exact ((KR.Rf.fld hfx rfl (j:=0) rfl))) ?_;refine BW ?_;replace H:=H.drew;refine G6 (vs:=VY (e,x)) U hY1 U ?_;rintro u w hu;obtain ⟨bb,rfl,hu1,hu0⟩:∃ bb,u = .bool bb∧(bb=true→∃ M,J (i+1) M w)∧(bb=false→E w):=hu.elim (fun h=>⟨true,h.1,fun _=>let ⟨M',h1,_⟩:=h.2; ⟨M',h1⟩,fun h=>by cases h⟩) (fun h=>⟨false,h.1,(fun h=>by cases h),fun _=>h.2⟩);refine BA U (Ab (Aa (Ap _ U ?_ ?_)))
   ·intro h2;replace h2:=BE h2;refine A4 (AA (Ao (Ao (AA (FA U U ?_)))));exact .inr (hu0 (by simpa using h2))
   ·intro h2;replace h2:=BF h2;refine Au (A5 (Aa (Az (Ax U U ?_))));refine Ae U (Ab (Aa ?_));exact ⟨i+1,rfl,⟨rfl,trivial⟩,⟨by omega,hu1 (by simpa using h2)⟩,by omega⟩
  ·intro h1;replace h1:=AK h1;refine Bq (Am (Am (AG (CF U U ?_))));obtain rfl:i=es.length:=by omega
   exact .inl ⟨M,by rw [hlen]; exact hJ⟩
theorem Fv {p:Prop} [Decidable p] (h:p):one p=1:=if_pos h
theorem EW {p:Prop} [Decidable p] (h:¬ p):one p=0:=if_neg h
theorem Di (p:Nat→Int) (v:Nat) (x:Int):upd p v x v=x:=if_pos rfl
theorem Et {p:Nat→Int} {v:Nat} {x:Int} {u:Nat} (h:u≠v):upd p v x u=p u:=if_neg h
theorem Gk (g:Gr) (x:Nat→Int) (k v:Nat):DS g x (k+1) v=DS g x k v+(one (g.t k=v) - one (g.f k=v))*x k:=rfl
set_option maxRecDepth 20000 in
set_option maxHeartbeats 4000000 in
theorem Adl (N:Int) (a b:Option Addr) (n c m d:Nat) (es:List Ed) (fl:List Int) (w:World) (R:Rd w a 4 CI es) (hn:es.length=n) (hN:I64 N) (Rf:Rd w b 1 I1 fl) (hm:fl.length=m) (hm2:m≤9223372036854775000) :
  Ret Tryz.prog 252 #[Ec N a n c,.slice b m d] w fun v w'=>(Cm N es fl=false→v = .slice none 0 0)∧(Cm N es fl=true→∃ b',v = .slice (some ⟨b',0,none⟩) N.toNat N.toNat∧w'.heap[b']? = some (Bl 2 (BS (BC (grE N es) (flE fl)) N.toNat))∧w.heap.size≤b')∧Ext [] w w':=by
 subst hn hm;obtain ⟨w0,rfl⟩:∃ w0,w0=w:=⟨_,rfl⟩;have H:=Ctx.start w0 [];refine He (fn:=Tryz.f252) Tryz.func252 U [Ec N a es.length c,.slice b fl.length d] U (by kernel_rfl) ?_;refine Af (Bv [.int .i64 N,.slice a es.length c] (.agg _) U U H ?_);rintro b2 w - H;refine A1 U (Ab (Aa (Aq (Af (Cl Df CL U H at0 U (A3 U (Al R8 (K6 N a b es.length c fl.length d es fl _ (R.ext0 H.ext) U hN (Rf.ext0 H.ext) U hm2) U ?_)))))));rintro v w ⟨rfl,hx10⟩;replace H:=H.call hx10;refine BA U (Ab (Aa (Ap _ U ?_ ?_)))
 ·intro h1;replace h1:=BE h1;refine Af (A1 U (Ab (Aa (A4 (Ao (L9 (v:=(.slice _ _ _)) U U ?_))))));have h1':Cm N es fl=false:=by simpa using h1
  exact ⟨fun _=>rfl,fun h=>(by rw [h1'] at h; cases h),H.ext⟩
 ·intro h1;replace h1:=BF h1;have h1':Cm N es fl=true:=by simpa using h1
  obtain ⟨hl,hr,hin⟩:=Cv h1';obtain ⟨hN1,hN40,hn200,hed,-⟩:=CD hr;obtain ⟨nn,rfl⟩:∃ nn:Nat,N=(nn:Int):=⟨N.toNat,by omega⟩;obtain ⟨g,hg⟩:∃ g,g=grE (nn:Int) es:=⟨_,rfl⟩;obtain ⟨x,hx⟩:∃ x,x=flE fl:=⟨_,rfl⟩;have hgE:g.E=es.length:=by rw [hg]; rfl
  refine Au (Aa (Af (Ag Fl U (AM Ca U H at0 U (GS Bg B6 Lg EK U U H ?_)))));rintro b14 w - H;rw [show ((nn:Int)).toNat=nn from rfl,EO] at H;refine AX Af4 H ?_;rintro b5 w - H;refine Cp (.slice _ _ _) Af1 U U U H at0 (by decide) ?_;rintro w H;refine Ab (Aa (Aq (Af (Cl Df CL U H at2 U (A3 U ?_)))));have hlt:=H.lt (k:=0) rfl;have hlt1:=H.lt (k:=1) rfl;refine Al Ai0 (ZD (nn:Int) a b es.length c fl.length d _) U ?_;rintro v w ⟨x2,x3,rfl,hb2,hb3,hs2,hs3,hne,hx17⟩;have H3:=(H.callAdd hx17 hb2 hs2).add hb3 (.inr (Nat.le_trans H.size hs3)) (fun y hy=>(List.mem_cons.1 hy).elim (fun h=>by rw [h]; exact hne) fun hy=>Nat.ne_of_lt (Nat.lt_of_lt_of_le (Ba (H.blk y hy)) hs3));refine Ab (Aa (A0 ?_));obtain ⟨ws,rfl⟩:∃ z,z=w:=⟨_,rfl⟩;have hk3:=H3.lt (k:=0) rfl;have hk2:=H3.lt (k:=1) rfl;have hk5:=H3.lt (k:=2) rfl;have hk14:=H3.lt (k:=3) rfl
  have hkb:=H3.lt (k:=4) rfl;have hs0:=H3.size;replace H3:=H3.perm (List.perm_middle (l₁:=[_,_,_]) (l₂:=[_]))
  refine NC (gf:=284) U Ai5 (Xn (b2:=x2) (b3:=x3) (N:=(nn:Int)) (a:=a) (b:=b) (c:=c) (d:=d) (es:=es) (fl:=fl) U U hl.symm) (by kernel_rfl) (by kernel_rfl) (fun v hv=>by obtain ⟨p,-,rfl⟩:=List.mem_map.1 hv; rfl)
   (fun i M w'=>(M=fun y=>y=b14)∧Ctx w0 [] w' [(b14,Bl 2 (BS (DS g x i) nn)),(x3,Bl 35 [.slice b fl.length d]),(x2,Bl 51 [.int .i64 (nn:Int),.slice a es.length c]),(b5,Bl 35 [.slice (some ⟨b14,0,none⟩) nn nn]),(b2,Bl 51 [.int .i64 (nn:Int),.slice a es.length c])]) (fun _=>False) (by simp)
   (fun w2 hx2 _=>⟨_,rfl,H3.call hx2⟩) (fun i M w' w'' hJ hx=>⟨hJ.1,hJ.2.step hx (fun y hy=>?_) fun z hz => .inr ?_⟩) (fun _ _ h _=>h) (fun i M w' hJ=>⟨fun y hy=>?_,hJ.2.get at2,hJ.2.get at1,R.ext0 hJ.2.ext,Rf.ext0 hJ.2.ext⟩) ?_ ?_ (fun _ h _=>h.elim)
  ·simp only [List.mem_cons,List.not_mem_nil,or_false] at hy ⊢
   rcases hy with rfl | rfl | rfl | rfl | rfl <;> (dsimp only; omega)
  ·simp only [List.mem_cons,List.not_mem_nil,or_false] at hz;omega
  ·rw [hJ.1] at hy;subst hy;exact ⟨Ba (hJ.2.get at0),by omega,by omega⟩
  ·rintro i v _ w hxv ⟨rfl,HJ⟩ hsz;rw [List.getElem?_map] at hxv;obtain ⟨⟨e,xx⟩,hez,rfl⟩:=Option.map_eq_some_iff.1 hxv;obtain ⟨he,hfx⟩:=List.getElem?_zip_eq_some.1 hez;have hi:=Ck he;obtain ⟨hf0,hfN,ht0,htN,-⟩:=EC (hed e (List.mem_of_getElem? he));obtain ⟨fn,hfn⟩:∃ fn:Nat,e.f=fn:=⟨e.f.toNat,by omega⟩;obtain ⟨tn,htn⟩:∃ tn:Nat,e.t=tn:=⟨e.t.toNat,by omega⟩;have hgf:g.f i=fn:=by rw [hg]; show ((es.getD i e0).f.toNat)=fn; rw [Bo he,hfn]; rfl
   have hgt:g.t i=tn:=by rw [hg]; show ((es.getD i e0).t.toNat)=tn; rw [Bo he,htn]; rfl
   have hxi:x i=xx:=by rw [hx]; exact Bo hfx
   have hxb:∀ j,j<i+1→0≤x j∧x j≤4503599627370496:=fun j hj=>by
    obtain ⟨e',he'⟩:=A8 (l:=es) (i:=j);obtain ⟨y,hy⟩:=A8 (l:=fl) (i:=j);have h3:=hin j e' y he' hy;have h4:=EC (hed e' (List.mem_of_getElem? he'));rw [hx];show 0≤fl.getD j 0∧fl.getD j 0≤4503599627370496;rw [Bo hy];omega
   have hbf:=Kc (g:=g) (x:=x) fn (k:=i) fun j hj=>hxb j (by omega);have hbt:=Kc (g:=g) (x:=x) tn (k:=i) fun j hj=>hxb j (by omega);have hxx:=hxb i (by omega);rw [hxi] at hxx;obtain ⟨o',ho'⟩:∃ o',o'=upd (DS g x i) fn (DS g x i fn - xx):=⟨_,rfl⟩;have hof:o' fn=DS g x i fn - xx:=by rw [ho',Di]
   have hon:∀ q,q≠fn→o' q=DS g x i q:=fun q hq=>by rw [ho',Et hq]
   have hot : -(201*4503599627370496)≤o' tn∧o' tn≤201*4503599627370496:=by
    by_cases h:tn=fn
    ·rw [h,hof]; omega
    ·rw [hon tn h]; omega
   have hst:∀ q,DS g x (i+1) q=upd o' tn (o' tn+xx) q:=fun q=>by
    rw [Gk,hgf,hgt,hxi]
    by_cases h1:q=tn
    ·subst h1;rw [Di,Fv rfl]
     by_cases h2:fn=q
     ·subst h2; rw [Fv rfl,hof]; omega
     ·rw [EW h2,hon q (Ne.symm h2)]; omega
    ·rw [Et h1,EW (Ne.symm h1)]
     by_cases h2:fn=q
     ·subst h2; rw [Fv rfl,hof]; omega
     ·rw [EW h2,hon q (Ne.symm h2)]; omega
   obtain ⟨w1,rfl⟩:∃ z,z=w:=⟨_,rfl⟩;have H:=Ctx.start w1 [];refine Af (AX Ht H ?_);rintro b6 w - H;refine Bm Dp U U U (by exact Hy _) H at0 U ?_;rintro w H;refine Ab (Aa (Az (Ad U (Ab ?_))));refine ⟨H.ext,fun wB hxB=>?_⟩;have hb6:=(H.own _ (List.mem_cons_self ..)).elim (fun h=>by cases h) id
   have HB:=((HJ.callAdd H.ext (H.get at0) hb6).step hxB (fun y hy=>by
    simp only [List.mem_cons,List.not_mem_nil,or_false] at hy ⊢
    rcases hy with rfl | rfl | rfl | rfl | rfl | rfl <;> (dsimp only; omega)) (fun z hz => .inr (by rw [List.mem_singleton.1 hz]; omega))).perm (List.Perm.swap _ _ _)
   obtain ⟨w2,rfl⟩:∃ z,z=wB:=⟨_,rfl⟩;have hb6B:=HB.get at1;have hb5B:=HB.get at4;have hn6:b6∉[b14]:=by rw [List.mem_singleton]; omega
   have hn5:b5∉[b14]:=by rw [List.mem_singleton]; exact HB.ne at4 at0 (by decide)
   have H:=Ctx.lend (L1:=[_]) (L2:=_) HB;dsimp only [List.map] at H;refine A0 (Af (AZ Cg U ((H.old (Aj hb5B _) hn5)) ?_));refine Ag FW U (AZ Ca U ((H.old (Aj hb6B _) hn6)) ?_);refine Bn Bg B6 U U ?_;refine Rh fn _ U Bw U H at0 (by rw [hfn]; simp) U ?_;refine Ae U (Br U U ?_);refine Bn Bg B6 U U ?_;refine Cc fn (fun q => .int .i64 (o' q)) (.int _ _) B6 U U U H at0 (by rw [hfn]; simp) (by rw [hof]) (fun q _ hq=>by rw [hon q hq]) ?_;rintro w H;refine Ab (Aa (Az (AZ Cg U ((H.old (Aj hb5B _) hn5)) ?_)));refine Ag FX U (AZ Ca U ((H.old (Aj hb6B _) hn6)) ?_);refine Bn Bg B6 U U ?_;refine Rh tn _ U Bw U H at0 (by rw [htn]; simp) U ?_;refine Ae U (Ax U U ?_);refine Bn Bg B6 U U ?_
   refine Cc tn (fun q => .int .i64 (DS g x (i+1) q)) (.int _ _) B6 U U U H at0 (by rw [htn]; simp) (by rw [hst,Di]) (fun q _ hq=>by rw [hst,Et hq]) ?_;rintro w H;refine Ab (A5 ?_);exact ⟨_,⟨rfl,((Ctx.back (L1:=[_]) (L1':=[_]) HB H).perm (List.Perm.swap _ _ _)).tail⟩,fun y h => .inl h,[b14],H.ext,fun y hy => .inl (List.mem_singleton.1 hy)⟩
  ·rintro M w ⟨-,HJ⟩ hD;rw [List.length_map,List.length_zip,hl,Nat.min_self] at HJ;replace H:=HJ;refine A5 (Aa (Af (AM Cg U H at3 U (A1 U (Ab (Aa (A4 (L9 (v:=(.slice _ _ _)) U U (Hf hD U fun wF hxF=>?_)))))))));refine ⟨fun h=>(by rw [h1'] at h; cases h),fun _=>⟨b14,rfl,?_,?_⟩,H.ext.then hxF fun z hz => .inr (by rw [List.mem_singleton.1 hz]; omega)⟩
   ·rw [hxF.block b14 (Ba (H.get at0)) (by rw [List.mem_singleton]; omega)];have h3:=H.get at0;rw [show BC (grE (nn:Int) es) (flE fl)=DS g x es.length by rw [hg,hx]; rfl];exact h3
   ·exact (H.own (b14,_) (List.mem_of_getElem? (i:=0) U)).elim (fun h=>by cases h) id
theorem ZE (N:Int) (a b:Option Addr) (n c m d:Nat) (es:List Ed) (fl:List Int) (w:World) (R:Rd w a 4 CI es) (hn:es.length=n) (hN:I64 N) (Rf:Rd w b 1 I1 fl) (hm:fl.length=m) (hm2:m≤9223372036854775000) :
  Ret Tryz.prog 215 #[Ec N a n c,.slice b m d] w fun v w'=>v = .bool (FE N es fl)∧Ext [] w w':=by
 subst hn hm;obtain ⟨w0,rfl⟩:∃ w0,w0=w:=⟨_,rfl⟩;have H:=Ctx.start w0 [];refine Aw (fn:=Tryz.f215) Tryz.func215 U [Ec N a es.length c,.slice b fl.length d] U (by kernel_rfl) ?_;refine Af (Bv [.int .i64 N,.slice a es.length c] (.agg _) U U H ?_);rintro b2 w - H;refine Ai U (Ab (Aa (Aq (Af (Cl Df CL U H at0 U (A3 U (Al R8 (K6 N a b es.length c fl.length d es fl _ (R.ext0 H.ext) U hN (Rf.ext0 H.ext) U hm2) U ?_)))))));rintro v w ⟨rfl,hx9⟩;replace H:=H.call hx9;refine BA U (Ab (Aa (Ap _ U ?_ ?_)))
 ·intro h1;replace h1:=BE h1;refine Af (Ai U (Ab (Aa (A4 (Ao (AD (v:=(.bool _)) U U U ?_))))));have h1':Cm N es fl=false:=by simpa using h1
  exact ⟨congrArg Value.bool (by unfold FE; rw [h1']; rfl),H.ext⟩
 ·intro h1;replace h1:=BF h1;have h1':Cm N es fl=true:=by simpa using h1
  have hfN:FE N es fl=(Nn N es fl).all fun x=>decide (x=0):=by unfold FE; rw [h1']; rfl
  obtain ⟨hN1,hN40,-⟩:=CD (Cv h1').2.1;obtain ⟨nn,rfl⟩:∃ nn:Nat,N=(nn:Int):=⟨N.toNat,by omega⟩;refine Au (Aa (Aq (Af (Cl Df CL U H at0 U (A3 U (Al Ain (Adl (nn:Int) a b es.length c fl.length d es fl _ (R.ext0 H.ext) U hN (Rf.ext0 H.ext) U hm2) U ?_))))));rintro v w ⟨-,hv,hx13⟩;obtain ⟨b13,rfl,hb13,hs13⟩:=hv h1';replace H:=H.call hx13;have R7:=Cx hb13;rw [show ((nn:Int)).toNat=nn from rfl] at R7 ⊢;refine Bi Bg U (Ae U (Ab (Aa (A0 ?_))));have hov:Nn (nn:Int) es fl=tab (BC (grE (nn:Int) es) (flE fl)) nn:=rfl;rw [← hov] at R7;have hlen:(Nn (nn:Int) es fl).length=nn:=by rw [hov,CV]
  obtain ⟨w7,rfl⟩:∃ z,z=w:=⟨_,rfl⟩;refine Bt 4161616 (α:=Nat) (fun i=>[(15,.int .i64 (i:Int))]) (fun i w'=>i≤nn∧Ext [] w7 w'∧Ctx w0 [] w' [(b2,Bl 51 [.int .i64 (nn:Int),.slice a es.length c])]∧∀ (k:Nat) (x:Int),k<i→(Nn (nn:Int) es fl)[k]? = some x→decide (x=0)=true) (fun i=>nn - i) 0 U ?_ ?_ ?_
  ·exact ⟨rfl,trivial⟩
  ·exact ⟨Nat.zero_le _,.refl _ _,H,fun k x h=>absurd h (Nat.not_lt_zero _)⟩
  ·rintro i j w ⟨hi,hx7,H,hb⟩;refine Af (Bj U U (Ab (Aa (Aq (Ap _ U ?_ ?_)))))
   ·intro h2;replace h2:=AJ h2;obtain ⟨x,h7x⟩:=A8 (l:=Nn (nn:Int) es fl) (i:=i);refine Au (Aa (Aq (A0 (Af (AS R7 Bg B6 U U (by omega) ?_)))));refine AZ Bw U (((R7.ext0 hx7).fld h7x U (j:=0) U)) ?_;refine Ad U (Ab (Aa (Af (Ae U (C9 U U (Ab (Aa (Ap _ U ?_ ?_))))))))
    ·intro h3;replace h3:=CR h3;refine Af (Ai U (Ab (Aa (A4 (AA (Ao (Ao (AA (Ao (AD (v:=(.bool _)) U U U ?_))))))))));exact ⟨congrArg Value.bool (by rw [hfN,Eh h7x (decide_eq_false (by simpa using h3))]),H.ext⟩
    ·intro h3;replace h3:=CS h3;refine Au (A5 (Aa (Az (Ax U U ?_))));refine Ae U (Ab (Aa ?_));refine ⟨i+1,rfl,⟨rfl,trivial⟩,⟨by omega,hx7,H,fun k y hk hy=>?_⟩,by omega⟩
     rcases Nat.lt_or_ge k i with h7 | h7
     ·exact hb k y h7 hy
     ·obtain rfl:k=i:=by omega
      rw [h7x] at hy;cases hy
      simpa using h3
   ·intro h2;replace h2:=AK h2;refine Bq (Am (Am (AG (Aa (Af (Ai U (Ab (Aa (A4 (AD (v:=(.bool _)) U U U ?_))))))))));exact ⟨congrArg Value.bool (by rw [hfN,Fe fun k x hk hx=>hb k x (by omega) hx]),H.ext⟩
theorem Ff {N:Int} {es:List Ed} {fl:List Int} (h:FE N es fl=true):Cm N es fl=true∧∀ v,v<N.toNat→BC (grE N es) (flE fl) v=0:=by
 unfold FE Nn at h;rw [Bool.and_eq_true] at h;refine ⟨h.1,fun v hv=>?_⟩;have h2:=List.all_eq_true.1 h.2 _ (List.mem_of_getElem? (BT hv))
 simpa using h2
end Go.Proofs.YtdagmpmdcgedcaaGreat
