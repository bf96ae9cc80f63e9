/-
  Part 4 of the proof, shared by claims of this seat: L2Code, NVsv, NVsw, NVd, NVb, NDt, NVba, L2PX, L2PY.
-/
import Derived.Test.YtmchgfpbddhfnaaGreatL2
import Derived.DataReads
import Derived.Carry
import Derived.ChangeOld
import Derived.ProofKit
set_option maxHeartbeats 64000000
set_option linter.unusedVariables false
set_option linter.unusedSimpArgs false
open Nat renaming reduceAdd → G0, reduceSub → G1, reduceEqDiff → G2, reduceLeDiff → G3, reduceBEq → G4, reduceLT → G5, le_refl → w0c, zero_add → w1f, add_mul → w22, zero_le → w2a, add_assoc → w30
open Option renaming map_eq_some_iff → w00, bind_eq_some_iff → w01, map_some → w04, getD_some → w16, bind_some → w1d
open List renaming getD_eq_getElem?_getD → w02, getElem?_eq_some_iff → w05, mem_append → w07, getElem?_append_left → w08, getElem?_eq_getElem → w09, getElem?_eq_none → w0e, eq_nil_of_length_eq_zero → w10, getElem?_map → w14, mem_cons → w15, mem_cons_of_mem → w1b, mem_cons_self → w20, length_take → w21, getElem?_modify → w23, all_eq_true → w27, mem_of_getElem? → w28, flatten_cons → w2b, ext_getElem? → w2c, mem_singleton → w2d, mem_append_right → w2e, getElem?_range → w31, mem_append_left → w34
open Bool renaming and_eq_true → w03, false_eq_true → w0d, or_eq_true → w1a
section
namespace Go.Proofs.W
open Go.Vs Go.Vs.U
set_option maxRecDepth 100000
def zf:Nat:=6
def zj:Nat:=28
def zh:Nat:=29
def zD:Nat:=30
def yw:Nat:=31
def yn:Nat:=32
def kH:Nat:=37
def Ui:Nat:=59
def ut:Nat:=71
def VU:Nat:=72
def t5:Nat:=73
def xK:Nat:=74
def qm:Nat:=75
def zn:Nat:=76
def zi:Nat:=77
def zZ:Nat:=78
def yc:Nat:=79
def xh:Nat:=80
def yu:Nat:=81
def Yl:Nat:=89
def Uh:Nat:=90
def jt:Nat:=91
def uY:Nat:=92
def Q7:Nat:=98
def Qb:Nat:=120
def Yk:Nat:=126
def z1Q:Nat:=127
def t3:Nat:=130
def U2:Nat:=132
def vE:Nat:=133
def vf:Nat:=136
def Zj:Nat:=138
def kF:Nat:=141
def kw:Nat:=145
def Wf:Nat:=146
def z0I:Nat:=147
def Qc:Nat:=148
def U4:Nat:=149
def zg:Nat:=150
def z0L:Nat:=162
def Ug:Nat:=163
def xC:Nat:=164
def U3:Nat:=165
def VW:Nat:=168
def u6:Nat:=169
def y2:Nat:=170
def qq:Nat:=171
def xU:Nat:=172
def Wc:Nat:=179
def xB:Nat:=185
def Zi:Nat:=186
def jq:Nat:=189
def Q6:Nat:=190
def Wk:Nat:=191
def yD:Nat:=192
def jc:Nat:=193
def ja:Nat:=196
def qZ:Nat:=197
def z0H:Nat:=198
def ZL:Nat:=199
def kG:Nat:=200
def Uf:Nat:=211
def qw:Nat:=212
def Ue:Nat:=213
def jS:Nat:=214
def Ud:Nat:=215
def jQ:Nat:=216
def Uc:Nat:=217
def qt:Nat:=218
def Ub:Nat:=219
def jR:Nat:=220
def Ua:Nat:=221
def xX:Nat:=222
def U9:Nat:=223
def Qf:Nat:=224
def zK:Nat:=225
def We:Nat:=226
def U7:Nat:=227
def zN:Nat:=228
def Yh:Nat:=229
def qp:Nat:=230
def Zg:Nat:=231
def vC:Nat:=232
def Wg:Nat:=233
def Q8:Nat:=234
def u5:Nat:=235
def zT:Nat:=236
def jb:Nat:=237
def xm:Nat:=238
def xV:Nat:=239
def VV:Nat:=240
def Yf:Nat:=241
def z0F:Nat:=242
def z0G:Nat:=247
def qr:Nat:=249
def vL:Nat:=250
def Qa:Nat:=252
def Wi:Nat:=253
def u7:Nat:=254
def U8:Nat:=255
def xd:Nat:=256
def xg:Nat:=257
def Qd:Nat:=258
def yJ:Nat:=259
def VZ:Nat:=260
def VY:Nat:=261
def ux:Nat:=262
def qu:Nat:=263
def qv:Nat:=273
def z5:Nat:=274
def yy:Nat:=275
def uy:Nat:=276
def xA:Nat:=277
def yQ:Nat:=278
def zu:Nat:=279
def uX:Nat:=280
def Wl:Nat:=281
def tJ:Nat:=282
def t0:Nat:=283
def ub:Nat:=284
def Qe:Nat:=285
def qs:Nat:=286
def jp:Nat:=287
def U1:Nat:=288
def U6:Nat:=289
def Yi:Nat:=290
def yb:Nat:=291
def Wd:Nat:=292
def uw:Nat:=293
def xW:Nat:=294
def ky:Nat:=295
def U0:Nat:=296
def zE:Nat:=297
def z0J:Nat:=298
def zQ:Nat:=299
def zk:Nat:=300
def vD:Nat:=301
def uu:Nat:=303
def VX:Nat:=304
def Wj:Nat:=305
def ve:Nat:=306
def zY:Nat:=307
def Yj:Nat:=308
def kE:Nat:=309
def xn:Nat:=317
def Q9:Nat:=318
def Yg:Nat:=319
def VT:Nat:=320
def uZ:Nat:=321
def jr:Nat:=322
def Zk:Nat:=323
def zG:Nat:=324
def qx:Nat:=325
def tH:Nat:=326
def zy:Nat:=327
def ua:Nat:=328
def zP:Nat:=329
def vF:Nat:=330
def z7:Nat:=331
def u9:Nat:=332
def yR:Nat:=333
def zA:Nat:=334
def t1:Nat:=335
def tI:Nat:=336
def z0K:Nat:=337
def uW:Nat:=338
def xi:Nat:=339
def ZM:Nat:=340
def Wm:Nat:=341
def Zh:Nat:=342
def qn:Nat:=343
def qo:Nat:=344
def U5:Nat:=345
def Wh:Nat:=346
def ym:Nat:=347
def js:Nat:=352
def vB:Nat:=353
def xM:Nat:=354
def uc:Nat:=355
def tG:Nat:=356
def jP:Nat:=357
def tF:Nat:=358
def u4:Nat:=359
def vA:Nat:=360
def zr:Nat:=361
def t4:Nat:=362
def yW:Nat:=363
def xT:Nat:=364
def yX:Nat:=365
def xl:Nat:=366
def xe:Nat:=367
def ya:Nat:=368
def z9:Nat:=369
def yK:Nat:=370
def xL:Nat:=371
def kD:Nat:=372
def kz:Nat:=373
def zX:Nat:=374
def uv:Nat:=375
def uV:Nat:=376
def ze:Nat:=377
def yj:Nat:=378
def t6:Nat:=379
def zx:Nat:=380
def zq:AFunc:=⟨88,[.tmp 2],(g [o 1 (bx 5 0),W 2 kf] (g [o 9 (cg zj []),m 3 9] (q (g [o 10 (lg 5 1),o 11 (cg zh [10]),m 12 11,z 13 12 (mt 3),z 14 12 (.un .not (.t 13)),o 15 (pt 12 14)] (c 15 (g [m 16 3,m 2 16] r) k)) (q (.draw [o 17 (fa 4 1),o 18 (ld 1 17),V 4 1,m 5 18,V 6 0]) (q (g [V 7 0] (bl 0 (lo [1,3,4,5,6,7] (q (g [m 19 7,o 20 (fa 3 1),o 21 (ld 1 20),o 22 (le 21),o 23 (b .lss 19 22)] (c 23 k (e 0))) (q (bl 1 (g [m 26 4,o 27 (fa 3 1),o 28 (ld 1 27),m 29 7,o 30 (ia 5 28 29),o 31 (lg 5 30),o 32 (cg zD [31]),o 33 (b .add 26 32),m 4 33] (g [m 34 5,m 35 34,z 36 35 (fa 3 1),z 37 35 (ld 1 36),z 38 35 (mt 7),z 39 35 (ia 5 37 38),z 40 35 (lg 5 39),z 41 35 (cg yw [40]),o 42 (pt 35 41),m 5 42] (p [m 43 6,o 44 (fa 3 1),o 45 (ld 1 44),m 46 7,o 47 (ia 5 45 46),o 48 (lg 5 47),o 49 (cg yn [48]),o 50 (.mx (.t 43) (.t 49)),m 6 50])))) (p [m 24 7,o 25 (bi .add 24 1),m 7 25])))))) (g [o 51 (lg 5 1),o 52 (cg yn [51]),m 8 52] (g [m 53 3,m 54 53,y 55 54 (lg 5 1),y 56 54 (cg zD [55]),y 57 54 (mt 4),y 58 54 (b .eql 56 57),o 59 (pf 54 58),m 60 59,y 61 60 (lg 5 1),y 62 60 (cg yw [61]),y 63 60 (mt 5),y 64 60 (.beq false (.t 62) (.t 63)),o 65 (pf 60 64),m 66 65,y 67 66 (mt 8),y 68 66 (mt 6),y 69 66 (b .eql 67 68),y 70 66 (mt 69),z 71 70 (mt 8),z 72 70 (mt 6),z 73 70 (bi .add 72 1),z 74 70 (b .eql 71 73),z 75 70 (mt 74),y 76 75 (fa 3 1),y 77 75 (ld 1 76),y 78 75 (le 77),y 79 75 (bi .gtr 78 0),z 80 70 (pf 75 79),y 81 66 (pt 70 80),o 82 (pf 66 81),m 83 82,y 84 83 (mt 8),y 85 83 (mt 4),y 86 83 (b .lss 84 85),o 87 (pf 83 86),m 2 87] r)))))))⟩
def xZ:List (List Nat):=[[1,3,4,5,6,7],[777777,654321]]
def y7:AFunc:=⟨98,[.tmp 0],(g [W 0 kf] (g [o 8 (cg ut []),o 1 (.alloc [.nils,.nils,.nils,.int .u8 (0),iz,iz,.int .u64 (0),.nils,.nils,.nils,.nils,.nils]),s 12 1 (.t 8)] (g [o 10 (lg 12 1),o 11 (cf VU [(.t 10),(ki 0)]),m 9 11,o 12 (ex 9 0),o 13 (ex 9 1),m 2 12,m 3 13] (q (g [m 14 3,o 15 (bi .neq 14 0),m 16 15,z 17 16 (mt 2),z 18 16 (le 17),z 19 16 (bi .neq 18 1),o 20 (pt 16 19)] (c 20 (g [W 0 kf] r) k)) (q (.draw [o 22 (lg 12 1),m 23 2,o 24 (.iaddr 8 (.t 23) (ki 0)),o 25 (lg 8 24),o 26 (cf t5 [(.t 22),(.t 25),(ki 3)]),m 21 26,o 27 (ex 21 0),o 28 (ex 21 1),m 4 27,m 5 28]) (q (.draw [o 30 (lg 12 1),m 31 2,o 32 (.iaddr 8 (.t 31) (ki 0)),o 33 (lg 8 32),o 34 (cf t5 [(.t 30),(.t 33),(ki 0)]),m 29 34,o 35 (ex 29 0),o 36 (ex 29 1),m 6 35,m 7 36]) (q (g [m 37 5,o 38 (bi .neq 37 0),m 39 38,z 40 39 (mt 7),z 41 39 (bi .neq 40 0),o 42 (pt 39 41),m 43 42,z 44 43 (mt 4),z 45 43 (le 44),z 46 43 (bi .neq 45 1),o 47 (pt 43 46),m 48 47,z 49 48 (mt 6),z 50 48 (le 49),z 51 48 (bi .neq 50 1),o 52 (pt 48 51)] (c 52 (g [W 0 kf] r) k)) (q (.draw [m 53 4,o 54 (.iaddr 6 (.t 53) (ki 0)),o 55 (fa 1 54),o 56 (lg 5 55),o 57 (cg qm []),o 58 (cg xK [56,57]),m 59 58,y 60 59 (mt 4),y 61 59 (.iaddr 6 (.t 60) (ki 0)),y 62 59 (fa 1 61),y 63 59 (lg 5 62),y 64 59 (cg zD [63]),y 65 59 (bi .eql 64 2),o 66 (pf 59 65),m 67 66,y 68 67 (mt 4),y 69 67 (.iaddr 6 (.t 68) (ki 0)),y 70 67 (fa 1 69),y 71 67 (lg 5 70),y 72 67 (cg yn [71]),y 73 67 (bi .eql 72 1),o 74 (pf 67 73),m 75 74,y 76 75 (mt 4),y 77 75 (.iaddr 6 (.t 76) (ki 0)),y 78 75 (fa 1 77),y 79 75 (lg 5 78),y 80 75 (cg yw [79]),y 81 75 (.un .not (.t 80)),o 82 (pf 75 81),m 83 82,y 84 83 (mt 6),y 85 83 (.iaddr 6 (.t 84) (ki 0)),y 86 83 (fa 1 85),y 87 83 (lg 5 86),y 88 83 (cg yw [87]),o 89 (pf 83 88),m 90 89,y 91 90 (mt 6),y 92 90 (.iaddr 6 (.t 91) (ki 0)),y 93 90 (fa 1 92),y 94 90 (lg 5 93),y 95 90 (cg zD [94]),y 96 90 (bi .eql 95 1),o 97 (pf 90 96),m 0 97]) r))))))))⟩
def td:List (List Nat):=[[777777,654321]]
def y5:AFunc:=⟨10,[.tmp 2],(g [o 1 (bx 5 0),W 2 kf] (g [o 3 (lg 5 1),o 4 (cf zn [(.t 3),(ki 200)]),m 5 4,z 6 5 (lg 5 1),z 7 5 (cf zi [(.t 6),(ki 6000)]),z 8 5 (bi .gtr 7 6000),o 9 (pt 5 8),m 2 9] r))⟩
def ta:List (List Nat):=[]
def xS:AFunc:=⟨8,[.tmp 2],(g [o 1 (bx 5 0),V 2 0] (g [o 3 (.alloc [iz]),s 1 3 (ki 0)] (g [o 4 (lg 5 1),o 5 (.mkfn (.func yc) [] [(.t 3)]),o 6 (cg zZ [4,5])] (g [o 7 (ld 1 3),m 2 7] r))))⟩
def ZW:List (List Nat):=[]
def uR:AFunc:=⟨8,[.tmp 2],(g [o 1 (bx 5 0),W 2 kf] (g [o 3 (.alloc [.bool false]),s 1 3 kf] (g [o 4 (lg 5 1),o 5 (.mkfn (.func xh) [] [(.t 3)]),o 6 (cg zZ [4,5])] (g [o 7 (ld 1 3),m 2 7] r))))⟩
def Ti:List (List Nat):=[]
def vy:AFunc:=⟨5,[.tmp 2],(g [o 1 (bx 5 0),V 2 0] (g [o 3 (lg 5 1),o 4 (cf zZ [(.t 3),(.c (.fn (.func yu) [] []))]),m 2 4] r))⟩
def YP:List (List Nat):=[]
def Q2:AFunc:=⟨118,[.tmp 2],(g [o 1 (bx 12 0),V 2 0] (q (g [o 12 (lg 12 1),o 13 (cg Yl [12]),m 11 13,o 14 (ex 11 0),o 15 (ex 11 1),m 3 14,m 4 15] (g [m 16 4,o 17 (.un .not (.t 16)),m 18 17,z 19 18 (fa 0 1),z 20 18 (lg 3 19),z 21 18 (cg Uh [20]),z 22 18 (bi .neq 21 0),o 23 (pt 18 22)] (c 23 (g [V 2 8] r) k))) (g [o 24 (fa 9 1),o 25 (ld 1 24),o 26 (le 25),m 5 26] (q (g [o 27 (fa 8 1),o 28 (ld 1 27),o 29 (le 28),m 30 5,o 31 (b .neq 29 30),m 32 31,z 33 32 (fa 10 1),z 34 32 (ld 1 33),z 35 32 (le 34),z 36 32 (mt 5),z 37 32 (b .neq 35 36),o 38 (pt 32 37),m 39 38,z 40 39 (fa 11 1),z 41 39 (ld 1 40),z 42 39 (le 41),z 43 39 (mt 5),z 44 39 (b .neq 42 43),o 45 (pt 39 44),m 46 45,z 47 46 (fa 3 1),z 48 46 (fa 1 47),z 49 46 (ld 1 48),z 50 46 (mt 5),z 51 46 (b .geq 49 50),o 52 (pt 46 51)] (c 52 (g [V 2 8] r) k)) (q (g [o 53 (fa 9 1),o 54 (ld 1 53),o 55 (le 54),V 56 0] (bl 0 (lo [1,54,55,56] (g [o 57 (b .lss 56 55)] (q (c 57 k (e 0)) (q (bl 1 (g [m 58 56,o 59 (ia 6 54 56),o 60 (lg 6 59),o 7 (.alloc [.int .u8 (0),.int .u64 (0),.int .u64 (0),.int .u64 (0),.int .u64 (0),iz]),m 6 58,s 6 7 (.t 60)] (q (q (.draw [o 61 (fa 2 7),o 62 (ld 1 61),o 63 (fa 8 1),o 64 (ld 1 63),m 65 6,o 66 (ia 2 64 65),o 67 (fa 0 66),o 68 (ld 1 67),o 69 (b .sub 62 68),o 70 (fa 8 1),o 71 (ld 1 70),m 72 6,o 73 (ia 2 71 72),o 74 (fa 1 73),o 75 (ld 1 74),o 76 (le 75),o 77 (.conv .u64 (.t 76)),o 78 (b .neq 69 77),m 79 78,z 80 79 (fa 3 7),z 81 79 (ld 1 80),z 82 79 (fa 10 1),z 83 79 (ld 1 82),z 84 79 (mt 6),z 85 79 (ia 1 83 84),z 86 79 (ld 1 85),z 87 79 (cg jt [81,86]),z 88 79 (.un .not (.t 87)),o 89 (pt 79 88),m 90 89,z 91 90 (fa 4 7),z 92 90 (ld 1 91),z 93 90 (fa 11 1),z 94 90 (ld 1 93),z 95 90 (mt 6),z 96 90 (ia 1 94 95),z 97 90 (ld 1 96),z 98 90 (cg jt [92,97]),z 99 90 (.un .not (.t 98)),o 100 (pt 90 99)]) (c 100 (g [V 2 8] r) k)) (g [o 102 (fa 0 1),o 103 (lg 3 102),o 104 (fa 1 7),o 105 (ld 1 104),o 106 (cg uY [103,105]),m 101 106,o 107 (ex 101 0),o 108 (ex 101 1),o 109 (ex 101 2),m 8 107,m 9 108,m 10 109] (g [o 110 (fa 0 7),o 111 (ld 1 110),o 112 (bu .neq 111 3),m 113 112,y 114 113 (mt 10),y 115 113 (bi .neq 114 0),o 116 (pf 113 115)] (c 116 (g [V 2 8] r) k)))))) (p [o 117 (bi .add 56 1),m 56 117]))))))) (g [V 2 0] r))))))⟩
def Tv:List (List Nat):=[[1,54,55,56],[777777,654321]]
def VQ:AFunc:=⟨8,[.tmp 2],(g [W 2 kn] (q (g [m 3 0,o 4 (.ext (.isNil false 0 (.t 3)))] (c 4 (g [W 2 kn] r) k)) (g [o 5 (li 1 []),m 6 0,o 7 (ap 1 1 5 6),m 2 7] r)))⟩
def V9:List (List Nat):=[]
def uo:AFunc:=⟨44,[.cell 0 true 12],(g [o 0 (.alloc [.nils,.nils,.nils,.int .u8 (0),iz,iz,.int .u64 (0),.nils,.nils,.nils,.nils,.nils])] (g [o 5 (.build [.str [],iz] [(0,1,(.c (.str [112]))),(1,1,(ki 1))]),o 6 (li 2 [5]),o 7 (.build [.int .u8 (0),iz,iz,iz] [(0,1,(ku 15)),(1,1,(ki 0))]),o 8 (.build [.int .u8 (0),iz,iz,iz] [(0,1,(ku 31))]),o 9 (.build [.int .u8 (0),iz,iz,iz] [(0,1,(ku 34)),(1,1,(ki (-1)))]),o 10 (li 4 [7,8,9]),o 11 (.build [iz,.int .u64 (0)] []),o 12 (li 2 [11]),o 13 (.build [iz,.int .u64 (0)] []),o 14 (.build [iz,.int .u64 (0)] [(0,1,(ki 1)),(1,1,(.c (.int .u64 (1))))]),o 15 (.build [iz,.int .u64 (0)] [(0,1,(ki 2))]),o 16 (li 2 [13,14,15]),o 17 (.build [.str [],iz,iz,.nils,.nils,.nils,.nils] [(0,1,(.c (.str [109]))),(2,1,(ki (-1))),(3,1,(.t 6)),(4,1,(.t 10)),(5,1,(.t 12)),(6,1,(.t 16))]),o 1 (.alloc [.str [],iz,iz,.nils,.nils,.nils,.nils]),s 7 1 (.t 17)] (g [o 18 (.build [.int .u8 (0),iz,iz,.nils] [(0,1,(ku 2))]),o 19 (.build [.int .u8 (0),iz,iz,.nils] [(0,1,(ku 4))]),o 20 (li 4 [18,19]),o 21 (lg 7 1),o 22 (li 7 [21]),o 23 (.build [.nils,.nils,.nils] [(0,1,(.t 20)),(2,1,(.t 22))]),o 2 (.alloc [.nils,.nils,.nils]),s 3 2 (.t 23)] (g [o 24 (.build [.int .u8 (0),.int .u64 (0),.int .u64 (0),.int .u64 (0),.int .u64 (0),iz] [(0,1,(ku 1)),(1,1,(.c (.int .u64 (257)))),(2,1,(.c (.int .u64 (16777248))))]),o 3 (.alloc [.int .u8 (0),.int .u64 (0),.int .u64 (0),.int .u64 (0),.int .u64 (0),iz]),s 6 3 (.t 24)] (q (.draw [o 4 (.alloc [.nils,.nils,.nils,.int .u8 (0),iz,iz,.int .u64 (0),.nils,.nils,.nils,.nils,.nils]),o 25 (lg 3 2),o 26 (.build [.int .u8 (0),iz,iz] [(0,1,(ku 5))]),o 27 (.lit 1 [(ku 5),(ku 0),(ku 0),(ku 0),(ku 0),(ku 0),(ku 0),(ku 0)]),o 28 (.build [.int .u64 (0),.nils] [(0,1,(.c (.int .u64 (65536)))),(1,1,(.t 27))]),o 29 (.make 1 1 [.int .u8 (0)] (ki 32) (ki 32)),o 30 (.build [.int .u64 (0),.nils] [(0,1,(.c (.int .u64 (16777216)))),(1,1,(.t 29))]),o 31 (li 2 [30]),o 32 (lg 6 3),o 33 (li 6 [32]),o 34 (.make 1 24 [.nils] (ki 1) (ki 1)),o 35 (.make 1 24 [.nils] (ki 1) (ki 1)),o 36 (.build [.nils,.nils,.nils,.int .u8 (0),iz,iz,.int .u64 (0),.nils,.nils,.nils,.nils,.nils] [(0,3,(.t 25)),(3,3,(.t 26)),(6,2,(.t 28)),(8,1,(.t 31)),(9,1,(.t 33)),(10,1,(.t 34)),(11,1,(.t 35))]),s 12 4 (.t 36)]) (g [o 37 (fa 8 4),o 38 (ld 1 37),o 39 (.iaddr 2 (.t 38) (ki 0)),o 40 (fa 1 39),o 41 (ld 1 40),o 42 (.iaddr 1 (.t 41) (ki 26)),s 1 42 (ku 1)] (g [o 43 (lg 12 4),s 12 0 (.t 43)] r)))))))⟩
def ue:List (List Nat):=[[777777,654321]]
def Vh:AFunc:=⟨50,[.tmp 4,.tmp 5],(g [o 2 (bx 12 0),W 4 kn,V 5 0] (q (g [o 10 (lg 12 2),o 11 (cg kH [10]),m 6 11] (bl 0 (g [m 13 6,o 14 (bi .neq 13 0),m 12 14] (c 12 (g [m 15 6,W 4 kn,m 5 15] r) (g [m 17 1,o 18 (bi .lss 17 0),m 19 18,z 20 19 (mt 1),z 21 19 (fa 9 2),z 22 19 (ld 1 21),z 23 19 (le 22),z 24 19 (b .geq 20 23),o 25 (pt 19 24),m 16 25] (c 16 (g [W 4 kn,V 5 2] r) (g [o 27 (fa 9 2),o 28 (ld 1 27),m 29 1,o 30 (ia 6 28 29),o 31 (fa 0 30),o 32 (ld 1 31),o 33 (bu .eql 32 3),m 26 33] (c 26 (g [W 4 kn,V 5 0] r) k)))))))) (g [o 7 (.alloc [.nils])] (g [o 34 (lg 12 2),m 35 1,o 36 (.build [.nils,.nils,.nils,.int .u8 (0),iz,iz,.int .u64 (0),.nils,.nils,.nils,.nils,.nils,iz,.bool false] [(0,12,(.t 34)),(12,1,(.t 35))]),o 37 (bx 14 36),m 8 37] (q (g [m 38 8,o 39 (cg kw [38])] (bl 1 (.rangeF (.t 39) [40] (p [o 9 (.alloc [.int .u64 (0),iz,iz,.int .u64 (0),iz,.int .u64 (0),.int .u64 (0),.int .u64 (0)]),s 8 9 (.t 40)]) (bl 2 (p [o 41 (ld 1 7),o 42 (lg 8 9),o 43 (li 8 [42]),o 44 (ap 8 64 41 43),s 1 7 (.t 44)]))))) (q (g [m 45 8,o 46 (.ext (.nilChk (.t 45))),o 47 (fa 13 46),o 48 (ld 1 47)] (c 48 (g [W 4 kn,V 5 12] r) k)) (g [o 49 (ld 1 7),m 4 49,V 5 0] r)))))))⟩
def WA:List (List Nat):=[]
def Y9:AFunc:=⟨84,[.tmp 6,.tmp 7],(g [o 3 (bx 12 0),o 4 (bx 8 1),W 6 kn,V 7 0] (q (g [o 18 (lg 12 3),m 19 2,o 20 (cg Wf [18,19]),m 8 20] (g [m 21 8,o 22 (bi .neq 21 0)] (c 22 (g [m 23 8,W 6 kn,m 7 23] r) k))) (g [o 25 (fa 0 3),o 26 (lg 3 25),o 27 (lg 8 4),o 28 (cg z0I [26,27]),m 24 28,o 29 (ex 24 0),o 30 (ex 24 1),m 9 29,m 10 30] (q (g [m 31 10,o 32 (bi .neq 31 0)] (c 32 (g [m 33 10,W 6 kn,m 7 33] r) k)) (g [W 11 kn] (q (g [o 34 (fa 0 3),o 35 (fa 2 34),o 36 (ld 1 35),o 37 (fa 1 4),o 38 (ld 1 37),o 39 (ia 7 36 38),o 40 (fa 3 39),o 41 (ld 1 40),o 42 (le 41),V 43 0] (bl 0 (lo [2,3,4,9,11,42,43] (g [o 44 (b .lss 43 42)] (q (c 44 k (e 0)) (q (bl 1 (g [m 45 43,m 12 45] (q (g [m 46 9,m 47 12,o 48 (b .shr 46 47),o 49 (.bin .and (.t 48) (.c (.int .u64 (1)))),o 50 (.bin .eql (.t 49) (.c (.int .u64 (0))))] (c 50 (e 1) k)) (g [o 52 (fa 0 3),o 53 (lg 3 52),o 54 (fa 1 4),o 55 (ld 1 54),m 56 12,o 57 (cg Qc [53,55,56]),m 51 57,o 58 (ex 51 0),o 59 (ex 51 1),o 60 (ex 51 2),m 13 58,m 14 59,m 15 60] (g [o 62 (lg 12 3),m 63 14,o 64 (fa 0 4),o 65 (ld 1 64),m 66 13,o 67 (.conv .u64 (.t 66)),o 68 (b .add 65 67),m 69 2,o 70 (cg U4 [62,63,68,69]),m 61 70,o 71 (ex 61 0),o 72 (ex 61 1),o 16 (.alloc [.int .u8 (0),iz,.str [],.nils,.bool false]),s 5 16 (.t 71),m 17 72] (q (g [m 73 17,o 74 (bi .neq 73 0)] (c 74 (g [m 75 17,W 6 kn,m 7 75] r) k)) (p [m 76 11,m 77 12,o 78 (lg 5 16),o 79 (.build [iz,.int .u8 (0),iz,.str [],.nils,.bool false] [(0,1,(.t 77)),(1,5,(.t 78))]),o 80 (li 6 [79]),o 81 (ap 6 72 76 80),m 11 81]))))))) (p [o 82 (bi .add 43 1),m 43 82]))))))) (g [m 83 11,m 6 83,V 7 0] r)))))))⟩
def ZX:List (List Nat):=[[2,3,4,9,11,42,43]]
def qg:AFunc:=⟨60,[.tmp 4],(g [o 2 (bx 5 0),o 3 (bx 5 1),W 4 kf] (q (g [o 6 (fa 0 2),o 7 (ld 1 6),o 8 (fa 0 3),o 9 (ld 1 8),o 10 (b .neq 7 9),m 11 10,z 12 11 (fa 1 2),z 13 11 (ld 1 12),z 14 11 (fa 1 3),z 15 11 (ld 1 14),z 16 11 (b .neq 13 15),o 17 (pt 11 16),m 18 17,z 19 18 (fa 2 2),z 20 18 (ld 1 19),z 21 18 (fa 2 3),z 22 18 (ld 1 21),z 23 18 (b .neq 20 22),o 24 (pt 18 23),m 25 24,z 26 25 (fa 4 2),z 27 25 (ld 1 26),z 28 25 (fa 4 3),z 29 25 (ld 1 28),z 30 25 (.beq true (.t 27) (.t 29)),o 31 (pt 25 30),m 32 31,z 33 32 (fa 3 2),z 34 32 (ld 1 33),z 35 32 (le 34),z 36 32 (fa 3 3),z 37 32 (ld 1 36),z 38 32 (le 37),z 39 32 (b .neq 35 38),o 40 (pt 32 39)] (c 40 (g [W 4 kf] r) k)) (q (g [V 5 0] (bl 0 (lo [2,3,5] (q (g [m 41 5,o 42 (fa 3 2),o 43 (ld 1 42),o 44 (le 43),o 45 (b .lss 41 44)] (c 45 k (e 0))) (q (bl 1 (q (.draw [o 48 (fa 3 2),o 49 (ld 1 48),m 50 5,o 51 (ia 5 49 50),o 52 (lg 5 51),o 53 (fa 3 3),o 54 (ld 1 53),m 55 5,o 56 (ia 5 54 55),o 57 (lg 5 56),o 58 (cg xK [52,57]),o 59 (.un .not (.t 58))]) (c 59 (g [W 4 kf] r) k))) (p [m 46 5,o 47 (bi .add 46 1),m 5 47])))))) (g [W 4 kt] r))))⟩
def tO:List (List Nat):=[[2,3,5],[777777,654321]]
def qh:AFunc:=⟨4,[.cell 0 true 5],(g [o 0 (.alloc [.int .u8 (0),iz,.str [],.nils,.bool false])] (g [o 1 (.build [.int .u8 (0),iz,.str [],.nils,.bool false] [(0,1,(ku 2)),(1,1,(ki 5))]),o 2 (li 5 [1]),o 3 (.build [.int .u8 (0),iz,.str [],.nils,.bool false] [(0,1,(ku 4)),(3,1,(.t 2))]),s 5 0 (.t 3)] r))⟩
def tP:List (List Nat):=[]
def yh:AFunc:=⟨25,[.tmp 4],(g [o 2 (bx 5 0),W 4 kf] (q (g [V 5 0] (bl 0 (lo [1,2,5] (q (g [m 6 5,o 7 (fa 3 2),o 8 (ld 1 7),o 9 (le 8),o 10 (b .lss 6 9)] (c 10 k (e 0))) (q (bl 1 (g [m 13 1,o 14 (bi .eql 13 0),m 15 14,z 16 15 (fa 3 2),z 17 15 (ld 1 16),z 18 15 (mt 5),z 19 15 (ia 5 17 18),z 20 15 (lg 5 19),z 21 15 (mt 1),z 22 15 (bi .sub 21 1),z 23 15 (cg zn [20,22]),o 24 (pt 15 23)] (c 24 (g [W 4 kt] r) k))) (p [m 11 5,o 12 (bi .add 11 1),m 5 12])))))) (g [W 4 kf] r)))⟩
def tN:List (List Nat):=[[1,2,5]]
def y6:AFunc:=⟨31,[.tmp 4],(g [o 2 (bx 5 0),V 4 0] (g [V 5 1] (q (g [V 6 0] (bl 0 (lo [1,2,5,6] (q (g [m 7 6,o 8 (fa 3 2),o 9 (ld 1 8),o 10 (le 9),o 11 (b .lss 7 10),m 12 11,y 13 12 (mt 5),y 14 12 (mt 1),y 15 12 (b .leq 13 14),o 16 (pf 12 15)] (c 16 k (e 0))) (q (bl 1 (p [m 19 5,o 20 (fa 3 2),o 21 (ld 1 20),m 22 6,o 23 (ia 5 21 22),o 24 (lg 5 23),m 25 1,m 26 5,o 27 (b .sub 25 26),o 28 (cg zi [24,27]),o 29 (b .add 19 28),m 5 29])) (p [m 17 6,o 18 (bi .add 17 1),m 6 18])))))) (g [m 30 5,m 4 30] r))))⟩
def tc:List (List Nat):=[[1,2,5,6]]
def vW:AFunc:=⟨10,[.tmp 4],(g [o 2 (bx 5 0),o 3 (bx 1 1),V 4 0] (g [o 5 (.alloc [.nilfn])] (g [o 6 (.mkfn (.func zg) [] [(.t 5),(.t 3)]),s 1 5 (.t 6)] (g [o 7 (ld 1 5),o 8 (lg 5 2),o 9 (.call (.t 7) [(.t 8)]),m 4 9] r))))⟩
def WO:List (List Nat):=[]
def xa:AFunc:=⟨8,[.tmp 5],(g [o 3 (bx 5 0),V 5 0] (g [o 6 (ld 1 2),o 7 (bi .add 6 1),s 1 2 (.t 7)] (g [V 5 0] r)))⟩
def k9:List (List Nat):=[]
def xb:AFunc:=⟨11,[.tmp 5],(g [o 3 (bx 5 0),V 5 0] (g [o 6 (ld 1 2),m 7 6,z 8 7 (fa 4 3),z 9 7 (ld 1 8),o 10 (pt 7 9),s 1 2 (.t 10)] (g [V 5 0] r)))⟩
def YQ:List (List Nat):=[]
def xq:AFunc:=⟨22,[.tmp 4],(g [o 2 (bx 5 0),V 4 0] (q (g [o 5 (fa 3 2),o 6 (ld 1 5),o 7 (le 6),o 8 (bi .gtr 7 0),m 9 8,y 10 9 (fa 0 2),y 11 9 (ld 1 10),y 12 9 (bu .eql 11 4),y 13 9 (mt 12),z 14 13 (fa 0 2),z 15 13 (ld 1 14),z 16 13 (bu .eql 15 7),y 17 9 (pt 13 16),o 18 (pf 9 17)] (c 18 (g [m 19 1,o 20 (bi .add 19 1),m 4 20] r) k)) (g [m 21 1,m 4 21] r)))⟩
def kQ:List (List Nat):=[]
def Yd:AFunc:=⟨33,[.tmp 2,.tmp 3],(g [o 1 (bx 12 0),W 2 kn,W 3 kf] (g [W 4 kn] (q (g [o 9 (cg z0L []),o 10 (le 9),V 11 0] (bl 0 (lo [1,4,9,10,11] (g [o 12 (b .lss 11 10)] (q (c 12 k (e 0)) (q (bl 1 (g [o 13 (ia 2 9 11),o 14 (lg 2 13),o 6 (.alloc [.int .u8 (0),.nilfn]),s 2 6 (.t 14)] (g [o 16 (fa 1 6),o 17 (ld 1 16),o 18 (lg 12 1),o 19 (.call (.t 17) [(.t 18)]),m 15 19,o 20 (ex 15 0),o 21 (ex 15 1),m 7 20,m 8 21] (q (g [m 22 8,o 23 (bi .neq 22 0)] (c 23 (g [W 2 kn,W 3 kf] r) k)) (p [m 24 4,o 25 (fa 0 6),o 26 (ld 1 25),m 27 7,o 28 (.build [.int .u8 (0),.nils] [(0,1,(.t 26)),(1,1,(.t 27))]),o 29 (li 2 [28]),o 30 (ap 2 32 24 29),m 4 30]))))) (p [o 31 (bi .add 11 1),m 11 31]))))))) (g [m 32 4,m 2 32,W 3 kt] r))))⟩
def Y1:List (List Nat):=[[1,4,9,10,11]]
def VP:AFunc:=⟨13,[.tmp 2],(g [o 1 (bx 3 0),V 2 0] (g [o 7 (lg 3 1),o 8 (cg Ug [7]),m 6 8,o 9 (ex 6 0),o 10 (ex 6 1),o 11 (ex 6 2),m 3 9,m 4 10,m 5 11] (g [m 12 5,m 2 12] r)))⟩
def V8:List (List Nat):=[]
def VN:AFunc:=⟨15,[.tmp 4],(g [W 4 kf] (q (g [m 5 1,o 6 (le 5),o 7 (bi .eql 6 0)] (c 7 (g [m 8 0,o 9 (.bin .eql (.t 8) (.c (.int .u64 (0)))),m 4 9] r) k)) (g [m 10 0,m 11 1,o 12 (.iaddr 1 (.t 11) (ki 0)),o 13 (ld 1 12),o 14 (b .eql 10 13),m 4 14] r)))⟩
def V6:List (List Nat):=[]
def TV:AFunc:=⟨45,[.tmp 4,.tmp 5,.tmp 6],(g [o 2 (bx 3 0),V 4 0,V 5 0,V 6 0] (q (g [o 9 (lg 3 2),o 10 (cg xC [9]),m 7 10] (g [m 11 7,o 12 (bi .neq 11 0)] (c 12 (g [m 13 7,V 4 0,V 5 0,m 6 13] r) k))) (g [m 14 1,o 15 (.bin .shr (.t 14) (.c (.int .u64 (8)))),m 16 1,o 17 (.bin .and (.t 16) (.c (.int .u64 (255)))),o 18 (.conv .i64 (.t 17)),m 8 15,m 5 18] (q (g [m 19 8,o 20 (.bin .eql (.t 19) (.c (.int .u64 (0)))),m 21 20,z 22 21 (mt 8),z 23 21 (fa 2 2),z 24 21 (ld 1 23),z 25 21 (le 24),z 26 21 (.conv .u64 (.t 25)),z 27 21 (b .gtr 22 26),o 28 (pt 21 27),m 29 28,z 30 29 (mt 5),z 31 29 (fa 2 2),z 32 29 (ld 1 31),z 33 29 (mt 8),z 34 29 (.bin .sub (.t 33) (.c (.int .u64 (1)))),z 35 29 (ia 7 32 34),z 36 29 (fa 4 35),z 37 29 (ld 1 36),z 38 29 (le 37),z 39 29 (b .geq 30 38),o 40 (pt 29 39)] (c 40 (g [V 4 0,V 5 0,V 6 6] r) k)) (g [m 41 8,o 42 (.conv .i64 (.t 41)),o 43 (bi .sub 42 1),m 44 5,m 4 43,m 5 44,V 6 0] r)))))⟩
def Tn:List (List Nat):=[]
def TO:AFunc:=⟨96,[.cell 10 true 5,.tmp 11],(g [o 10 (.alloc [.int .u8 (0),iz,.str [],.nils,.bool false]),V 11 0] (g [m 23 0,m 24 3,o 25 (cg VW [23,24]),m 22 25,o 26 (ex 22 0),o 27 (ex 22 1),m 12 26,m 13 27] (q (g [m 28 13,o 29 (bi .neq 28 0)] (c 29 (g [o 30 (.build [.int .u8 (0),iz,.str [],.nils,.bool false] []),m 31 13,s 5 10 (.t 30),m 11 31] r) k)) (q (g [m 32 4,o 33 (bi .lss 32 0),m 34 33,z 35 34 (mt 4),z 36 34 (bi .gtr 35 3),o 37 (pt 34 36)] (c 37 (g [o 38 (.build [.int .u8 (0),iz,.str [],.nils,.bool false] []),s 5 10 (.t 38),V 11 2] r) k)) (q (g [m 40 1,o 41 (cf u6 [(.t 40),(.c (.int .u64 (0))),(ki 1)]),m 39 41,o 42 (ex 39 0),o 43 (ex 39 1),m 14 42,m 15 43] (g [m 44 15,o 45 (bi .neq 44 0),m 46 45,y 47 46 (mt 15),y 48 46 (bi .neq 47 6),o 49 (pf 46 48)] (c 49 (g [o 50 (.build [.int .u8 (0),iz,.str [],.nils,.bool false] []),m 51 15,s 5 10 (.t 50),m 11 51] r) k))) (g [m 53 0,m 54 3,o 55 (cg y2 [53,54]),m 52 55,o 56 (ex 52 0),o 57 (ex 52 1),o 58 (ex 52 2),m 16 56,m 17 57,m 18 58] (g [m 60 1,m 61 2,m 62 16,o 63 (.mx (.t 62) (ki 1)),o 64 (cg u6 [60,61,63]),m 59 64,o 65 (ex 59 0),o 66 (ex 59 1),m 19 65,m 13 66] (q (g [m 67 13,o 68 (bi .neq 67 0),m 69 68,z 70 69 (mt 2),z 71 69 (mt 17),z 72 69 (.conv .u64 (.t 71)),z 73 69 (b .rem 70 72),z 74 69 (.bin .neq (.t 73) (.c (.int .u64 (0)))),o 75 (pt 69 74)] (c 75 (g [o 76 (.build [.int .u8 (0),iz,.str [],.nils,.bool false] []),s 5 10 (.t 76),V 11 16] r) k)) (g [m 78 1,m 79 19,o 80 (ia 2 78 79),o 81 (lg 2 80),m 82 2,m 83 16,o 84 (cg qq [81,82,83]),m 77 84,o 85 (ex 77 0),o 86 (ex 77 1),m 20 85,m 21 86] (g [m 87 0,m 88 1,o 89 (.build [.nils,.nils] [(0,1,(.t 87)),(1,1,(.t 88))]),m 90 20,m 91 3,m 92 4,o 93 (cg xU [89,90,91,92]),o 94 (ex 93 0),o 95 (ex 93 1),s 5 10 (.t 94),m 11 95] r))))))))))⟩
def Tf:List (List Nat):=[]
def TU:AFunc:=⟨85,[.tmp 2],(g [o 1 (bx 3 0),W 2 kf] (q (g [o 12 (fa 0 1),o 13 (ld 1 12),o 14 (cg xB [13]),o 15 (bi .neq 14 0),m 16 15,z 17 16 (fa 1 1),z 18 16 (ld 1 17),z 19 16 (le 18),z 20 16 (bi .gtr 19 32),o 21 (pt 16 20),m 22 21,z 23 22 (fa 2 1),z 24 22 (ld 1 23),z 25 22 (le 24),z 26 22 (bi .eql 25 0),o 27 (pt 22 26),m 28 27,z 29 28 (fa 2 1),z 30 28 (ld 1 29),z 31 28 (le 30),z 32 28 (bi .gtr 31 32),o 33 (pt 28 32)] (c 33 (g [W 2 kf] r) k)) (q (g [o 34 (fa 0 1),o 35 (ld 1 34),o 36 (le 35),V 37 0] (bl 0 (lo [1,36,37] (g [o 38 (b .lss 37 36)] (q (c 38 k (e 0)) (q (bl 1 (g [m 39 37,m 3 39] (g [o 41 (fa 0 1),o 42 (ld 1 41),m 43 3,o 44 (cg y2 [42,43]),m 40 44,o 45 (ex 40 0),o 46 (ex 40 1),o 47 (ex 40 2),m 4 45,m 5 46,m 6 47] (g [m 48 6,o 49 (bi .neq 48 0)] (c 49 (g [W 2 kf] r) k))))) (p [o 50 (bi .add 37 1),m 37 50]))))))) (q (g [o 51 (fa 1 1),o 52 (ld 1 51),o 53 (le 52),V 54 0] (bl 2 (lo [1,52,53,54] (g [o 55 (b .lss 54 53)] (q (c 55 k (e 2)) (q (bl 3 (g [o 56 (ia 1 52 54),o 57 (ld 1 56),m 8 57] (g [m 58 8,o 59 (.lenS (.t 58)),o 60 (bi .gtr 59 64)] (c 60 (g [W 2 kf] r) k)))) (p [o 61 (bi .add 54 1),m 54 61]))))))) (g [o 62 (.ext .mkmap),m 9 62] (q (g [o 63 (fa 2 1),o 64 (ld 1 63),o 65 (le 64),V 66 0] (bl 4 (lo [1,9,64,65,66] (g [o 67 (b .lss 66 65)] (q (c 67 k (e 4)) (q (bl 5 (g [o 68 (ia 7 64 66),o 69 (lg 7 68),o 11 (.alloc [.str [],iz,iz,.nils,.nils,.nils,.nils]),s 7 11 (.t 69)] (q (g [m 70 9,o 71 (fa 0 11),o 72 (ld 1 71),o 73 (.ext (.mget true (.bool false) (.t 70) (.t 72))),m 74 73,z 75 74 (fa 0 1),z 76 74 (ld 1 75),z 77 74 (lg 7 11),z 78 74 (cg Zi [76,77]),z 79 74 (.un .not (.t 78)),o 80 (pt 74 79)] (c 80 (g [W 2 kf] r) k)) (p [m 81 9,o 82 (fa 0 11),o 83 (ld 1 82),⟨none,.ext (.mput true (.t 81) (.t 83) kt),none,false⟩])))) (p [o 84 (bi .add 66 1),m 66 84]))))))) (g [W 2 kt] r)))))))⟩
def Tm:List (List Nat):=[[1,36,37],[1,52,53,54],[1,9,64,65,66]]
def Yc:AFunc:=⟨35,[.tmp 2],(g [o 1 (bx 3 0),W 2 kf] (q (g [o 3 (fa 0 1),o 4 (ld 1 3),o 5 (bu .lss 4 2),m 6 5,z 7 6 (fa 0 1),z 8 6 (ld 1 7),z 9 6 (bu .gtr 8 6),o 10 (pt 6 9),m 11 10,z 12 11 (fa 2 1),z 13 11 (ld 1 12),z 14 11 (bi .lss 13 0),o 15 (pt 11 14),m 16 15,z 17 16 (fa 2 1),z 18 16 (ld 1 17),z 19 16 (bi .gtr 18 5000),o 20 (pt 16 19)] (c 20 (g [W 2 kf] r) k)) (q (g [o 21 (fa 0 1),o 22 (ld 1 21),o 23 (bu .eql 22 3)] (c 23 (g [o 24 (fa 1 1),o 25 (ld 1 24),o 26 (bi .eql 25 (-1)),m 2 26] r) k)) (g [o 27 (fa 1 1),o 28 (ld 1 27),o 29 (bi .geq 28 0),m 30 29,y 31 30 (fa 1 1),y 32 30 (ld 1 31),y 33 30 (bi .lss 32 16),o 34 (pf 30 33),m 2 34] r))))⟩
def Y0:List (List Nat):=[]
def z1J:AFunc:=⟨12,[.cell 2 true 2,.tmp 3],(g [o 2 (.alloc [.nils,iz]),V 3 0] (q (g [m 4 0,o 5 (le 4),o 6 (bi .gtr 5 200000)] (c 6 (g [o 7 (.build [.nils,iz] []),s 2 2 (.t 7),V 3 4] r) k)) (g [o 8 (li 1 []),m 9 0,o 10 (ap 1 1 8 9),o 11 (.build [.nils,iz] [(0,1,(.t 10))]),s 2 2 (.t 11),V 3 0] r)))⟩
def z16:List (List Nat):=[]
def Y7:AFunc:=⟨5,[.tmp 2],(g [o 1 (bx 2 0),W 2 kf] (g [o 3 (lg 2 1),o 4 (cf jq [(.t 3),(.c (.int .u64 (65536))),(ki 16384)]),m 2 4] r))⟩
def ZT:List (List Nat):=[]
def Vt:AFunc:=⟨7,[.tmp 2],(g [o 2 (v (.c (.int .u64 (0))))] (g [m 3 0,o 4 (bi .add 3 1),o 5 (.conv .u64 (.t 4)),o 6 (.bin .mul (.c (.int .u64 (16777216))) (.t 5)),m 2 6] r))⟩
def WL:List (List Nat):=[]
def jL:AFunc:=⟨26,[.tmp 2],(g [W 2 kf] (q (g [m 5 0,o 6 (le 5),V 7 0] (bl 0 (lo [0,5,6,7] (g [o 8 (b .lss 7 6)] (q (c 8 k (e 0)) (q (bl 1 (g [m 9 7,o 10 (ia 2 5 7),o 11 (lg 2 10),o 4 (.alloc [.int .u64 (0),.nils]),m 3 9,s 2 4 (.t 11)] (q (.draw [o 12 (lg 2 4),m 13 3,o 14 (cg U2 [13]),o 15 (cf jq [(.t 12),(.t 14),(ki 4096)]),o 16 (.un .not (.t 15))]) (c 16 (g [W 2 kf] r) k)))) (p [o 17 (bi .add 7 1),m 7 17]))))))) (g [m 18 0,o 19 (le 18),o 20 (bi .gtr 19 0),m 21 20,y 22 21 (mt 0),y 23 21 (le 22),y 24 21 (bi .leq 23 16),o 25 (pf 21 24),m 2 25] r)))⟩
def jw:List (List Nat):=[[0,5,6,7],[777777,654321]]
def TW:AFunc:=⟨7,[.tmp 2],(g [o 2 (v (.c (.int .u64 (0))))] (g [m 3 0,o 4 (bi .add 3 1),o 5 (.conv .u64 (.t 4)),o 6 (.bin .mul (.c (.int .u64 (16777216))) (.t 5)),m 2 6] r))⟩
def To:List (List Nat):=[]
def Ze:AFunc:=⟨25,[.tmp 2],(g [W 2 kf] (q (g [m 5 0,o 6 (le 5),V 7 0] (bl 0 (lo [0,5,6,7] (g [o 8 (b .lss 7 6)] (q (c 8 k (e 0)) (q (bl 1 (g [m 9 7,o 10 (ia 6 5 7),o 11 (lg 6 10),o 4 (.alloc [.int .u8 (0),.int .u64 (0),.int .u64 (0),.int .u64 (0),.int .u64 (0),iz]),m 3 9,s 6 4 (.t 11)] (g [m 12 3,o 13 (lg 6 4),o 14 (cg Wk [12,13]),o 15 (.un .not (.t 14))] (c 15 (g [W 2 kf] r) k)))) (p [o 16 (bi .add 7 1),m 7 16]))))))) (g [m 17 0,o 18 (le 17),o 19 (bi .gtr 18 0),m 20 19,y 21 20 (mt 0),y 22 20 (le 21),y 23 20 (bi .leq 22 16),o 24 (pf 20 23),m 2 24] r)))⟩
def kU:List (List Nat):=[[0,5,6,7]]
def kr:AFunc:=⟨27,[.tmp 2],(g [W 2 kf] (q (g [m 5 0,o 6 (le 5),V 7 0] (bl 0 (lo [0,5,6,7] (g [o 8 (b .lss 7 6)] (q (c 8 k (e 0)) (q (bl 1 (g [o 9 (ia 1 5 7),o 10 (ld 1 9),m 4 10] (g [m 11 4,o 12 (le 11),o 13 (bi .gtr 12 410),m 14 13,z 15 14 (mt 4),z 16 14 (cf yD [(.t 15),(.c (.fn (.func jc) [] []))]),o 17 (pt 14 16)] (c 17 (g [W 2 kf] r) k)))) (p [o 18 (bi .add 7 1),m 7 18]))))))) (g [m 19 0,o 20 (le 19),o 21 (bi .gtr 20 0),m 22 21,y 23 22 (mt 0),y 24 22 (le 23),y 25 22 (bi .leq 24 16),o 26 (pf 22 25),m 2 26] r)))⟩
def ka:List (List Nat):=[[0,5,6,7]]
def ko:AFunc:=⟨4,[.tmp 2],(g [o 1 (bx 1 0),o 2 (v (.c (.nilfn)))] (g [o 3 (.mkfn (.func ja) [] [(.t 1)]),m 2 3] r))⟩
def jZ:List (List Nat):=[]
def XY:AFunc:=⟨17,[.tmp 4],(g [o 2 (bx 12 0),V 4 0] (q (g [o 6 (lg 12 2),o 7 (cg kH [6]),m 5 7] (g [m 8 5,o 9 (bi .neq 8 0)] (c 9 (g [m 10 5,m 4 10] r) k))) (q (g [m 11 1,o 12 (bi .lss 11 0),m 13 12,z 14 13 (mt 1),z 15 13 (bi .gtr 14 3),o 16 (pt 13 15)] (c 16 (g [V 4 2] r) k)) (g [V 4 0] r))))⟩
def YO:List (List Nat):=[]
def z0s:AFunc:=⟨61,[.tmp 4,.tmp 5],(g [o 2 (bx 3 0),o 3 (bx 8 1),o 4 (v (.c (.int .u64 (0)))),V 5 0] (q (g [o 7 (lg 3 2),o 8 (cg xC [7]),m 6 8] (g [m 9 6,o 10 (bi .neq 9 0)] (c 10 (g [m 11 6,o 4 (v (.c (.int .u64 (0)))),m 5 11] r) k))) (q (q (.draw [o 12 (fa 1 3),o 13 (ld 1 12),o 14 (bi .lss 13 0),m 15 14,z 16 15 (fa 1 3),z 17 15 (ld 1 16),z 18 15 (fa 2 2),z 19 15 (ld 1 18),z 20 15 (le 19),z 21 15 (b .geq 17 20),o 22 (pt 15 21),m 23 22,z 24 23 (fa 2 3),z 25 23 (ld 1 24),z 26 23 (bi .lss 25 0),o 27 (pt 23 26),m 28 27,z 29 28 (fa 2 3),z 30 28 (ld 1 29),z 31 28 (fa 2 2),z 32 28 (ld 1 31),z 33 28 (fa 1 3),z 34 28 (ld 1 33),z 35 28 (ia 7 32 34),z 36 28 (fa 4 35),z 37 28 (ld 1 36),z 38 28 (le 37),z 39 28 (b .geq 30 38),o 40 (pt 28 39)]) (c 40 (g [o 4 (v (.c (.int .u64 (0)))),V 5 16] r) k)) (q (.draw [o 41 (fa 2 2),o 42 (ld 1 41),o 43 (fa 1 3),o 44 (ld 1 43),o 45 (ia 7 42 44),o 46 (fa 6 45),o 47 (ld 1 46),o 48 (fa 2 2),o 49 (ld 1 48),o 50 (fa 1 3),o 51 (ld 1 50),o 52 (ia 7 49 51),o 53 (fa 4 52),o 54 (ld 1 53),o 55 (le 54),o 56 (fa 2 3),o 57 (ld 1 56),o 58 (cg ZL [47,55,57]),o 59 (ex 58 0),o 60 (ex 58 1),m 4 59,m 5 60]) r))))⟩
def QC:List (List Nat):=[[777777,654321]]
def TY:AFunc:=⟨62,[.tmp 6,.tmp 7,.tmp 8],(g [o 3 (bx 3 0),V 6 0,V 7 0,V 8 0] (q (g [o 12 (lg 3 3),o 13 (cg xC [12]),m 9 13] (g [m 14 9,o 15 (bi .neq 14 0)] (c 15 (g [m 16 9,V 6 0,V 7 0,m 8 16] r) k))) (q (g [m 17 1,o 18 (bi .lss 17 0),m 19 18,z 20 19 (mt 1),z 21 19 (fa 2 3),z 22 19 (ld 1 21),z 23 19 (le 22),z 24 19 (b .geq 20 23),o 25 (pt 19 24),m 26 25,z 27 26 (mt 2),z 28 26 (bi .lss 27 0),o 29 (pt 26 28),m 30 29,z 31 30 (mt 2),z 32 30 (fa 2 3),z 33 30 (ld 1 32),z 34 30 (mt 1),z 35 30 (ia 7 33 34),z 36 30 (fa 3 35),z 37 30 (ld 1 36),z 38 30 (le 37),z 39 30 (b .geq 31 38),o 40 (pt 30 39)] (c 40 (g [V 6 0,V 7 0,V 8 2] r) k)) (g [o 42 (lg 3 3),m 43 1,o 44 (cg kG [42,43]),m 41 44,o 45 (ex 41 0),o 46 (ex 41 1),m 10 45,m 11 46] (q (.draw [m 47 10,m 48 2,o 49 (ia 1 47 48),o 50 (ld 1 49),o 51 (.bin .add (ki 24) (.t 50)),o 52 (fa 2 3),o 53 (ld 1 52),m 54 1,o 55 (ia 7 53 54),o 56 (fa 3 55),o 57 (ld 1 56),m 58 2,o 59 (ia 2 57 58),o 60 (fa 1 59),o 61 (ld 1 60),m 6 51,m 7 61,V 8 0]) r)))))⟩
def Tq:List (List Nat):=[[777777,654321]]
def Vv:AFunc:=⟨25,[.cell 8 true 5,.tmp 9],(g [o 4 (bx 12 0),o 8 (.alloc [.int .u8 (0),iz,.str [],.nils,.bool false]),V 9 0] (q (.draw [o 10 (fa 0 4),o 11 (fa 0 10),o 12 (ld 1 11),o 13 (fa 6 4),o 14 (lg 2 13),o 15 (li 2 [14]),o 16 (fa 8 4),o 17 (ld 1 16),o 18 (ap 2 32 15 17),m 19 2,m 20 1,m 21 3,o 22 (cg Q7 [12,18,19,20,21]),o 23 (ex 22 0),o 24 (ex 22 1),s 5 8 (.t 23),m 9 24]) r))⟩
def WN:List (List Nat):=[[777777,654321]]
def xR:AFunc:=⟨25,[.tmp 4],(g [o 3 (bx 5 0),V 4 0] (g [V 5 0] (q (g [o 8 (fa 3 3),o 9 (ld 1 8),o 10 (le 9),V 11 0] (bl 0 (lo [1,2,3,5,9,10,11] (g [o 12 (b .lss 11 10)] (q (c 12 k (e 0)) (q (bl 1 (g [o 13 (ia 5 9 11),o 14 (lg 5 13),o 7 (.alloc [.int .u8 (0),iz,.str [],.nils,.bool false]),s 5 7 (.t 14)] (p [m 15 5,o 16 (ld 1 1),o 17 (lg 5 7),o 18 (.call (.t 16) [(.t 17)]),o 19 (.mx (.t 15) (.t 18)),m 5 19]))) (p [o 20 (bi .add 11 1),m 11 20]))))))) (g [o 21 (ld 1 2),o 22 (lg 5 3),m 23 5,o 24 (.call (.t 21) [(.t 22),(.t 23)]),m 4 24] r))))⟩
def ZV:List (List Nat):=[[1,2,3,5,9,10,11]]
def z0D:AFunc:=⟨9,[.tmp 0],(g [W 0 kn] (g [o 1 (.build [.int .u8 (0),.nilfn] [(0,1,(ku 1)),(1,1,(.c (.fn (.func Uf) [] [])))]),o 2 (.build [.int .u8 (0),.nilfn] [(0,1,(ku 2)),(1,1,(.c (.fn (.func Ue) [] [])))]),o 3 (.build [.int .u8 (0),.nilfn] [(0,1,(ku 3)),(1,1,(.c (.fn (.func Ud) [] [])))]),o 4 (.build [.int .u8 (0),.nilfn] [(0,1,(ku 4)),(1,1,(.c (.fn (.func Uc) [] [])))]),o 5 (.build [.int .u8 (0),.nilfn] [(0,1,(ku 5)),(1,1,(.c (.fn (.func Ub) [] [])))]),o 6 (.build [.int .u8 (0),.nilfn] [(0,1,(ku 6)),(1,1,(.c (.fn (.func Ua) [] [])))]),o 7 (.build [.int .u8 (0),.nilfn] [(0,1,(ku 7)),(1,1,(.c (.fn (.func U9) [] [])))]),o 8 (li 2 [1,2,3,4,5,6,7]),m 0 8] r))⟩
def QN:List (List Nat):=[]
def VO:AFunc:=⟨55,[.tmp 2,.tmp 3,.tmp 4],(g [o 1 (bx 3 0),V 2 0,V 3 0,V 4 0] (q (g [o 9 (lg 3 1),o 10 (cg xC [9]),m 5 10] (g [m 11 5,o 12 (bi .neq 11 0)] (c 12 (g [m 13 5,V 2 0,V 3 0,m 4 13] r) k))) (q (g [o 14 (fa 2 1),o 15 (ld 1 14),o 16 (le 15),V 17 0] (bl 0 (lo [1,15,16,17] (g [o 18 (b .lss 17 16)] (q (c 18 k (e 0)) (q (bl 1 (g [m 19 17,o 20 (ia 7 15 17),o 21 (lg 7 20),o 7 (.alloc [.str [],iz,iz,.nils,.nils,.nils,.nils]),m 6 19,s 7 7 (.t 21)] (g [o 22 (lg 3 1),m 23 6,o 24 (cg Qf [22,23]),o 8 (.alloc [.nils,.nils,iz,iz]),s 4 8 (.t 24)] (q (g [o 25 (fa 3 8),o 26 (ld 1 25),o 27 (bi .eql 26 0),m 28 27,y 29 28 (fa 0 8),y 30 28 (ld 1 29),y 31 28 (fa 5 7),y 32 28 (ld 1 31),y 33 28 (cg zK [30,32]),y 34 28 (.un .not (.t 33)),y 35 28 (mt 34),z 36 35 (fa 1 8),z 37 35 (ld 1 36),z 38 35 (fa 6 7),z 39 35 (ld 1 38),z 40 35 (cg zK [37,39]),z 41 35 (.un .not (.t 40)),y 42 28 (pt 35 41),o 43 (pf 28 42)] (c 43 (p [o 44 (fa 2 8),s 1 44 (ki (-1)),o 45 (fa 3 8),s 1 45 (ki 32)]) k)) (g [o 46 (fa 3 8),o 47 (ld 1 46),o 48 (bi .neq 47 0)] (c 48 (q (.draw [m 49 6,o 50 (fa 2 8),o 51 (ld 1 50),o 52 (fa 3 8),o 53 (ld 1 52),m 2 49,m 3 51,m 4 53]) r) k)))))) (p [o 54 (bi .add 17 1),m 17 54]))))))) (g [V 2 0,V 3 0,V 4 0] r))))⟩
def V7:List (List Nat):=[[1,15,16,17],[777777,654321]]
def VD:AFunc:=⟨11,[.tmp 2],(g [o 1 (bx 3 0),V 2 0] (g [o 6 (lg 3 1),o 7 (cg qw [6]),m 5 7,o 8 (ex 5 0),o 9 (ex 5 1),m 3 8,m 4 9] (g [m 10 4,m 2 10] r)))⟩
def WW:List (List Nat):=[]
def Vu:AFunc:=⟨42,[.tmp 6,.tmp 7],(g [o 3 (bx 2 0),o 6 (v (.c (.int .u64 (0)))),V 7 0] (g [o 16 (lg 2 3),m 17 1,m 18 2,o 19 (cf We [(.t 16),(.t 17),(.t 18),(ki 8)]),m 15 19,o 20 (ex 15 0),o 21 (ex 15 1),m 8 20,m 9 21] (q (bl 0 (g [m 23 9,o 24 (bi .neq 23 0),m 22 24] (c 22 (g [m 25 9,o 6 (v (.c (.int .u64 (0)))),m 7 25] r) (g [m 27 2,o 28 (.bin .rem (.t 27) (.c (.int .u64 (8)))),o 29 (.bin .neq (.t 28) (.c (.int .u64 (0)))),m 26 29] (c 26 (g [o 6 (v (.c (.int .u64 (0)))),V 7 16] r) k))))) (g [m 31 8,o 32 (cg z1Q [31]),m 30 32,o 33 (ex 30 0),o 34 (ex 30 1),o 10 (.alloc [.nils,iz]),s 2 10 (.t 33),m 11 34] (g [o 36 (lg 2 10),o 37 (cf Wc [(.t 36),(ki 8)]),m 35 37,o 38 (ex 35 0),o 39 (ex 35 1),o 40 (ex 35 2),o 12 (.alloc [.nils,iz]),s 2 12 (.t 38),m 13 39,m 14 40] (g [m 41 13,m 6 41,V 7 0] r))))))⟩
def WM:List (List Nat):=[]
def Vj:AFunc:=⟨50,[.tmp 4,.tmp 5],(g [V 4 0,V 5 0] (g [m 17 0,m 18 1,o 19 (cg y2 [17,18]),m 16 19,o 20 (ex 16 0),o 21 (ex 16 1),o 22 (ex 16 2),m 6 20,m 7 21,m 8 22] (q (g [m 23 8,o 24 (bi .neq 23 0)] (c 24 (g [m 25 8,V 4 0,m 5 25] r) k)) (g [m 27 0,m 28 1,o 29 (cg U7 [27,28]),m 26 29,o 30 (ex 26 0),o 31 (ex 26 1),m 9 30,m 10 31] (q (g [m 32 9,o 33 (le 32),V 34 0] (bl 0 (lo [0,6,32,33,34] (g [o 35 (b .lss 34 33)] (q (c 35 k (e 0)) (q (bl 1 (g [o 36 (ia 1 32 34),o 37 (ld 1 36),m 12 37] (g [m 39 0,m 40 12,o 41 (cg y2 [39,40]),m 38 41,o 42 (ex 38 0),o 43 (ex 38 1),o 44 (ex 38 2),m 13 42,m 14 43,m 15 44] (g [m 45 15,o 46 (bi .neq 45 0)] (c 46 (g [m 47 15,V 4 0,m 5 47] r) k))))) (p [o 48 (bi .add 34 1),m 34 48]))))))) (g [m 49 6,m 4 49,V 5 0] r))))))⟩
def WC:List (List Nat):=[[0,6,32,33,34]]
def Vo:AFunc:=⟨72,[.tmp 6,.tmp 7],(g [V 6 0,V 7 0] (q (g [m 16 0,o 17 (le 16),o 18 (bi .gtr 17 17)] (c 18 (g [V 6 0,V 7 4] r) k)) (q (g [m 19 0,o 20 (cf zN [(.t 19),(.c (.fn (.func Yh) [] []))])] (c 20 (g [V 6 0,V 7 8] r) k)) (q (g [m 21 0,o 22 (le 21),V 23 0] (bl 0 (lo [0,1,2,21,22,23] (g [o 24 (b .lss 23 22)] (q (c 24 k (e 0)) (q (bl 1 (g [m 25 23,o 26 (ia 2 21 23),o 27 (lg 2 26),o 9 (.alloc [.int .u64 (0),.nils]),m 8 25,s 2 9 (.t 27)] (g [m 28 0,m 29 8,o 30 (.slice 2 (.t 28) none (some (.t 29)) none),o 31 (le 30),V 32 0] (bl 2 (lo [0,1,2,9,21,22,23,30,31,32] (g [o 33 (b .lss 32 31)] (q (c 33 k (e 2)) (q (bl 3 (g [o 34 (ia 2 30 32),o 35 (lg 2 34),o 11 (.alloc [.int .u64 (0),.nils]),s 2 11 (.t 35)] (g [o 36 (fa 1 9),o 37 (ld 1 36),o 38 (le 37),o 39 (bi .gtr 38 0),m 40 39,y 41 40 (fa 1 11),y 42 40 (ld 1 41),y 43 40 (le 42),y 44 40 (bi .gtr 43 0),o 45 (pf 40 44),m 46 45,y 47 46 (lg 2 9),y 48 46 (lg 2 11),y 49 46 (cg Zg [47,48]),o 50 (pf 46 49)] (c 50 (g [V 6 0,V 7 14] r) k)))) (p [o 51 (bi .add 32 1),m 32 51]))))))))) (p [o 52 (bi .add 23 1),m 23 52]))))))) (q (g [m 53 2,o 54 (bi .lss 53 1)] (c 54 (g [V 6 0,V 7 2] r) k)) (q (g [m 55 0,o 56 (le 55),V 57 0] (bl 4 (lo [1,2,55,56,57] (g [o 58 (b .lss 57 56)] (q (c 58 k (e 4)) (q (bl 5 (g [m 59 57,o 60 (ia 2 55 57),o 61 (lg 2 60),o 13 (.alloc [.int .u64 (0),.nils]),m 12 59,s 2 13 (.t 61)] (g [o 63 (lg 2 13),m 64 1,m 65 2,o 66 (cg vC [63,64,65]),m 62 66,o 67 (ex 62 0),o 68 (ex 62 1),m 14 67,m 15 68] (g [m 69 15] (c 69 (g [m 70 12,m 6 70,V 7 0] r) k))))) (p [o 71 (bi .add 57 1),m 57 71]))))))) (g [V 6 0,V 7 6] r)))))))⟩
def WH:List (List Nat):=[[0,1,2,21,22,23],[0,1,2,9,21,22,23,30,31,32],[1,2,55,56,57]]
def Vw:AFunc:=⟨27,[.tmp 4,.tmp 5,.tmp 6],(g [V 4 0,V 5 0,V 6 0] (g [m 9 0,m 10 1,o 11 (cg Wg [9,10]),m 8 11,o 12 (ex 8 0),o 13 (ex 8 1),m 7 12,m 6 13] (q (g [m 14 6,o 15 (bi .neq 14 0)] (c 15 (g [m 16 6,V 4 0,V 5 0,m 6 16] r) k)) (q (.draw [m 17 7,m 18 1,o 19 (ia 2 17 18),o 20 (fa 0 19),o 21 (ld 1 20),m 22 7,m 23 1,o 24 (ia 2 22 23),o 25 (fa 1 24),o 26 (ld 1 25),m 4 21,m 5 26,V 6 0]) r))))⟩
def WP:List (List Nat):=[[777777,654321]]
def XV:AFunc:=⟨39,[.tmp 6,.tmp 7],(g [o 3 (bx 2 0),W 6 kn,V 7 0] (g [o 13 (lg 2 3),m 14 1,m 15 2,o 16 (cg Q8 [13,14,15]),m 12 16,o 17 (ex 12 0),o 18 (ex 12 1),m 8 17,m 9 18] (q (g [m 19 9,o 20 (bi .neq 19 0)] (c 20 (g [m 21 9,W 6 kn,m 7 21] r) k)) (q (g [m 22 8,o 23 (.un .not (.t 22))] (c 23 (g [W 6 kn,V 7 16] r) k)) (g [o 25 (lg 2 3),m 26 1,m 27 2,o 28 (cg vC [25,26,27]),m 24 28,o 29 (ex 24 0),o 30 (ex 24 1),m 10 29,m 11 30] (g [o 31 (fa 1 3),o 32 (ld 1 31),m 33 10,m 34 10,m 35 2,o 36 (b .add 34 35),o 37 (.slice 1 (.t 32) (some (.t 33)) (some (.t 36)) none),o 38 (cg u5 [37]),m 6 38,V 7 0] r))))))⟩
def YL:List (List Nat):=[]
def qS:AFunc:=⟨124,[.cell 8 true 5,.tmp 9],(g [o 4 (bx 2 0),o 8 (.alloc [.int .u8 (0),iz,.str [],.nils,.bool false]),V 9 0] (g [o 15 (fa 0 4),o 16 (ld 1 15),m 17 2,o 18 (ia 4 16 17),o 19 (lg 4 18),o 10 (.alloc [.int .u8 (0),iz,iz,.nils]),s 4 10 (.t 19)] (g [o 20 (fa 0 10),o 21 (ld 1 20),o 22 (fa 0 8),s 1 22 (.t 21)] (q (g [o 23 (fa 0 10),o 24 (ld 1 23)] (bl 0 (g [o 40 (bu .eql 24 1),m 39 40] (c 39 (g [m 41 1,o 42 (.iaddr 1 (.t 41) (ki 0)),o 43 (ld 1 42),o 44 (.conv .i64 (.t 43)),o 45 (fa 1 8),s 1 45 (.t 44)] (g [m 46 1,o 47 (.iaddr 1 (.t 46) (ki 0)),o 48 (ld 1 47),o 49 (bu .gtr 48 1)] (c 49 (p [V 9 12]) k))) (g [o 51 (bu .eql 24 2),m 50 51] (c 50 (p [m 52 1,o 53 (cf zT [(.t 52),(ki 0)]),o 54 (.conv .i64 (.t 53)),o 55 (fa 1 8),s 1 55 (.t 54)]) (g [o 57 (bu .eql 24 3),m 56 57] (c 56 (.draw [o 59 (lg 2 4),m 60 1,o 61 (cf zT [(.t 60),(ki 0)]),m 62 1,o 63 (cf zT [(.t 62),(ki 1)]),o 64 (cg jb [59,61,63]),m 58 64,o 65 (ex 58 0),o 66 (ex 58 1),o 67 (fa 2 8),s 1 67 (.t 65),m 9 66]) (g [o 69 (bu .eql 24 4),m 68 69] (c 68 (g [m 70 1,o 71 (cf zT [(.t 70),(ki 0)]),m 11 71] (g [m 72 11,o 73 (.bin .neq (.t 72) (.c (.int .u64 (0))))] (c 73 (p [o 75 (lg 2 4),m 76 11,o 77 (lg 4 10),m 78 3,o 79 (cf xm [(.t 75),(.t 76),(.t 77),(ki 1),(ki 1),(.t 78)]),m 74 79,o 80 (ex 74 0),o 81 (ex 74 1),s 5 8 (.t 80),m 9 81]) k))) (g [o 83 (bu .eql 24 7),m 82 83] (c 82 (g [m 84 1,o 85 (cf zT [(.t 84),(ki 0)]),m 86 1,o 87 (cf zT [(.t 86),(ki 1)]),m 88 1,o 89 (cf zT [(.t 88),(ki 2)]),m 12 85,m 13 87,m 14 89] (g [m 90 13,m 91 14,o 92 (b .gtr 90 91),m 93 92,z 94 93 (mt 14),z 95 93 (.bin .gtr (.t 94) (.c (.int .u64 (16)))),o 96 (pt 93 95),m 97 96,z 98 97 (mt 12),z 99 97 (.bin .eql (.t 98) (.c (.int .u64 (0)))),z 100 97 (mt 99),y 101 100 (mt 14),y 102 100 (.bin .gtr (.t 101) (.c (.int .u64 (0)))),z 103 97 (pf 100 102),o 104 (pt 97 103)] (c 104 (p [V 9 12]) (g [m 105 12,o 106 (.bin .neq (.t 105) (.c (.int .u64 (0))))] (c 106 (p [o 108 (lg 2 4),m 109 12,o 110 (lg 4 10),m 111 13,o 112 (.conv .i64 (.t 111)),m 113 14,o 114 (.conv .i64 (.t 113)),m 115 3,o 116 (cg xm [108,109,110,112,114,115]),m 107 116,o 117 (ex 107 0),o 118 (ex 107 1),s 5 8 (.t 117),m 9 118]) k))))) (.draw [o 26 (lg 2 4),m 27 1,o 28 (lg 4 10),o 29 (cg VV [28]),o 30 (fa 0 4),w 31 (ld 1 30),w 32 (lg 4 10),o 33 (cg Yf [31,32]),m 34 3,o 35 (cg xV [26,27,29,33,34]),m 25 35,o 36 (ex 25 0),o 37 (ex 25 1),o 38 (fa 3 8),⟨none,.ext (.lst 1 (.t 38) (.t 36)),none,false⟩,m 9 37]))))))))))))) (q (g [m 119 9,o 120 (bi .neq 119 0)] (c 120 (g [o 121 (.build [.int .u8 (0),iz,.str [],.nils,.bool false] []),m 122 9,s 5 8 (.t 121),m 9 122] r) k)) (g [o 123 (lg 5 8),s 5 8 (.t 123),V 9 0] r))))))⟩
def qI:List (List Nat):=[[777777,654321]]
def XQ:AFunc:=⟨60,[.cell 4 true 2,.tmp 5,.tmp 6],(g [o 2 (bx 2 0),o 4 (.alloc [.nils,iz]),o 5 (v (.c (.int .u64 (0)))),V 6 0] (q (g [o 11 (lg 2 2),o 12 (cg Q6 [11]),m 13 1,o 14 (cg z0F [13]),o 15 (li 1 [12,14]),o 16 (cg z0G [15]),m 7 16] (g [m 17 7,o 18 (bi .neq 17 0)] (c 18 (g [o 19 (.build [.nils,iz] []),m 20 7,s 2 4 (.t 19),o 5 (v (.c (.int .u64 (0)))),m 6 20] r) k))) (q (g [m 21 1,o 22 (fa 0 2),o 23 (ld 1 22),o 24 (le 23),o 25 (fa 1 2),o 26 (ld 1 25),o 27 (b .sub 24 26),o 28 (b .gtr 21 27)] (c 28 (g [o 29 (.build [.nils,iz] []),s 2 4 (.t 29),o 5 (v (.c (.int .u64 (0)))),V 6 24] r) k)) (g [o 8 (v (.c (.int .u64 (0))))] (q (g [o 30 (fa 0 2),o 31 (ld 1 30),o 32 (fa 1 2),o 33 (ld 1 32),o 34 (fa 1 2),o 35 (ld 1 34),m 36 1,o 37 (b .add 35 36),o 38 (.slice 1 (.t 31) (some (.t 33)) (some (.t 37)) none),o 39 (le 38),V 40 0] (bl 0 (lo [1,2,4,8,38,39,40] (g [o 41 (b .lss 40 39)] (q (c 41 k (e 0)) (q (bl 1 (g [m 42 40,o 43 (ia 1 38 40),o 44 (ld 1 43),m 9 42,m 10 44] (p [m 45 8,m 46 10,o 47 (.conv .u64 (.t 46)),m 48 9,o 49 (.bin .mul (ki 8) (.t 48)),o 50 (b .shl 47 49),o 51 (b .or 45 50),m 8 51]))) (p [o 52 (bi .add 40 1),m 40 52]))))))) (g [o 53 (fa 1 2),o 54 (ld 1 53),m 55 1,o 56 (b .add 54 55),o 57 (fa 1 2),s 1 57 (.t 56)] (g [o 58 (lg 2 2),m 59 8,s 2 4 (.t 58),m 5 59,V 6 0] r)))))))⟩
def YF:List (List Nat):=[[1,2,4,8,38,39,40]]
def VB:AFunc:=⟨29,[.tmp 2],(g [V 2 0] (q (g [m 6 0,o 7 (le 6),o 8 (bi .gtr 7 32)] (c 8 (g [V 2 8] r) k)) (q (g [m 9 0,o 10 (le 9),V 11 0] (bl 0 (lo [0,10,11] (g [o 12 (b .lss 11 10)] (q (c 12 k (e 0)) (q (bl 1 (g [m 13 11,m 3 13] (g [m 14 0,m 15 3,o 16 (cg Qa [14,15]),o 17 (.un .not (.t 16))] (c 17 (g [V 2 8] r) k)))) (p [o 18 (bi .add 11 1),m 11 18]))))))) (q (g [m 19 0,o 20 (cg Wi [19]),o 21 (le 20),V 22 0] (bl 2 (lo [20,21,22] (g [o 23 (b .lss 22 21)] (q (c 23 k (e 2)) (q (bl 3 (g [o 24 (ia 1 20 22),o 25 (ld 1 24),m 5 25] (g [m 26 5,o 27 (bi .gtr 26 5000)] (c 27 (g [V 2 8] r) k)))) (p [o 28 (bi .add 22 1),m 22 28]))))))) (g [V 2 0] r)))))⟩
def WU:List (List Nat):=[[0,10,11],[20,21,22]]
def Zd:AFunc:=⟨95,[.tmp 4],(g [o 3 (bx 7 1),W 4 kf] (q (g [o 9 (fa 0 3),o 10 (ld 1 9),o 11 (cg u7 [10]),o 12 (.un .not (.t 11)),m 13 12,z 14 13 (fa 3 3),z 15 13 (ld 1 14),z 16 13 (le 15),z 17 13 (bi .gtr 16 16),o 18 (pt 13 17),m 19 18,z 20 19 (fa 3 3),z 21 19 (ld 1 20),z 22 19 (cg U8 [21]),z 23 19 (.un .not (.t 22)),o 24 (pt 19 23),m 25 24,z 26 25 (fa 1 3),z 27 25 (ld 1 26),z 28 25 (bi .lss 27 0),o 29 (pt 25 28),m 30 29,z 31 30 (fa 1 3),z 32 30 (ld 1 31),z 33 30 (fa 3 3),z 34 30 (ld 1 33),z 35 30 (le 34),z 36 30 (b .gtr 32 35),o 37 (pt 30 36),m 38 37,z 39 38 (fa 2 3),z 40 38 (ld 1 39),z 41 38 (bi .lss 40 (-1)),o 42 (pt 38 41),m 43 42,z 44 43 (fa 2 3),z 45 43 (ld 1 44),z 46 43 (mt 0),z 47 43 (le 46),z 48 43 (b .geq 45 47),o 49 (pt 43 48)] (c 49 (g [W 4 kf] r) k)) (q (g [o 50 (fa 3 3),o 51 (ld 1 50),o 52 (le 51),V 53 0] (bl 0 (lo [0,3,51,52,53] (g [o 54 (b .lss 53 52)] (q (c 54 k (e 0)) (q (bl 1 (g [o 55 (ia 2 51 53),o 56 (lg 2 55),o 6 (.alloc [.str [],iz]),s 2 6 (.t 56)] (g [o 57 (fa 1 6),o 58 (ld 1 57),o 59 (bi .lss 58 0),m 60 59,z 61 60 (fa 1 6),z 62 60 (ld 1 61),z 63 60 (mt 0),z 64 60 (le 63),z 65 60 (b .geq 62 64),o 66 (pt 60 65)] (c 66 (g [W 4 kf] r) k)))) (p [o 67 (bi .add 53 1),m 53 67]))))))) (q (g [o 68 (fa 4 3),o 69 (ld 1 68),o 70 (le 69),V 71 0] (bl 2 (lo [3,69,70,71] (g [o 72 (b .lss 71 70)] (q (c 72 k (e 2)) (q (bl 3 (g [o 73 (ia 4 69 71),o 74 (lg 4 73),o 8 (.alloc [.int .u8 (0),iz,iz,iz]),s 4 8 (.t 74)] (g [o 75 (lg 4 8),o 76 (cg vL [75]),o 77 (bi .neq 76 0)] (c 77 (g [W 4 kf] r) k)))) (p [o 78 (bi .add 71 1),m 71 78]))))))) (g [o 79 (fa 5 3),o 80 (ld 1 79),o 81 (fa 4 3),o 82 (ld 1 81),o 83 (le 82),o 84 (cg xd [80,83]),o 85 (bi .eql 84 0),m 86 85,y 87 86 (fa 6 3),y 88 86 (ld 1 87),y 89 86 (fa 4 3),y 90 86 (ld 1 89),y 91 86 (le 90),y 92 86 (cg xd [88,91]),y 93 86 (bi .eql 92 0),o 94 (pf 86 93),m 4 94] r)))))⟩
def kT:List (List Nat):=[[0,3,51,52,53],[3,69,70,71]]
def Vq:AFunc:=⟨25,[.tmp 6],(g [o 3 (bx 2 0),W 6 kf] (g [o 7 (fa 0 3),o 8 (ld 1 7),m 9 1,o 10 (b .eql 8 9),m 11 10,y 12 11 (fa 1 3),y 13 11 (ld 1 12),y 14 11 (le 13),y 15 11 (mt 2),y 16 11 (b .leq 14 15),o 17 (pf 11 16),m 18 17,y 19 18 (fa 1 3),y 20 18 (ld 1 19),y 21 18 (le 20),y 22 18 (bi .rem 21 8),y 23 18 (bi .eql 22 0),o 24 (pf 18 23),m 6 24] r))⟩
def WJ:List (List Nat):=[]
def TL:AFunc:=⟨20,[.tmp 2],(g [o 1 (bx 2 0),V 2 0] (q (g [o 3 (fa 0 1),o 4 (ld 1 3),o 5 (le 4),o 6 (bi .gtr 5 200000),m 7 6,z 8 7 (fa 1 1),z 9 7 (ld 1 8),z 10 7 (bi .lss 9 0),o 11 (pt 7 10),m 12 11,z 13 12 (fa 1 1),z 14 12 (ld 1 13),z 15 12 (fa 0 1),z 16 12 (ld 1 15),z 17 12 (le 16),z 18 12 (b .gtr 14 17),o 19 (pt 12 18)] (c 19 (g [V 2 8] r) k)) (g [V 2 0] r)))⟩
def Tc:List (List Nat):=[]
def W5:AFunc:=⟨56,[.tmp 4],(g [o 3 (bx 6 1),W 4 kf] (q (.draw [o 6 (fa 2 3),o 7 (ld 1 6),m 8 0,o 9 (cg vf [8]),o 10 (b .sub 7 9),m 5 10]) (q (bl 0 (q (g [o 12 (fa 0 3),o 13 (ld 1 12),o 14 (bu .lss 13 1),m 15 14,z 16 15 (fa 0 3),z 17 15 (ld 1 16),z 18 15 (bu .gtr 17 3),o 19 (pt 15 18),m 11 19] (c 11 k (q (.draw [o 20 (fa 2 3),o 21 (ld 1 20),m 22 0,o 23 (cg vf [22]),o 24 (b .lss 21 23),m 25 24,z 26 25 (mt 5),z 27 25 (.bin .gtr (.t 26) (.c (.int .u64 (4096)))),o 28 (pt 25 27),m 11 28]) (c 11 k (p [o 29 (fa 2 3),o 30 (ld 1 29),o 31 (fa 3 3),o 32 (ld 1 31),o 33 (b .or 30 32),o 34 (fa 4 3),o 35 (ld 1 34),o 36 (b .or 33 35),o 37 (.bin .rem (.t 36) (.c (.int .u64 (8)))),o 38 (.bin .neq (.t 37) (.c (.int .u64 (0)))),m 11 38]))))) (c 11 (g [W 4 kf] r) (g [o 40 (fa 0 3),o 41 (ld 1 40),o 42 (bu .eql 41 3),m 39 42] (c 39 (q (.draw [o 43 (lg 6 3),m 44 0,o 45 (cg vf [44]),o 46 (.build [.int .u8 (0),.int .u64 (0),.int .u64 (0),.int .u64 (0),.int .u64 (0),iz] [(0,1,(ku 3)),(2,1,(.t 45))]),o 47 (.ext (.eqA false 6 [(0,1),(1,1),(2,1),(3,1),(4,1),(5,1)] (.t 43) (.t 46))),m 4 47]) r) k))))) (g [o 48 (fa 5 3),o 49 (ld 1 48),o 50 (bi .eql 49 0),m 51 50,z 52 51 (fa 0 3),z 53 51 (ld 1 52),z 54 51 (bu .eql 53 2),o 55 (pt 51 54),m 4 55] r))))⟩
def YX:List (List Nat):=[[777777,654321]]
def yC:AFunc:=⟨9,[.tmp 4],(g [W 4 kf] (g [m 5 0,m 6 1,o 7 (cg xg [5,6]),o 8 (bi .geq 7 0),m 4 8] r))⟩
def yA:List (List Nat):=[]
def qW:AFunc:=⟨14,[.tmp 2],(g [W 2 kf] (g [m 3 0,o 4 (.bin .lss (.t 3) (.c (.int .u64 (65536)))),m 5 4,z 6 5 (mt 0),z 7 5 (.bin .geq (.t 6) (.c (.int .u64 (81920)))),o 8 (pt 5 7),m 9 8,z 10 9 (mt 0),z 11 9 (.bin .rem (.t 10) (.c (.int .u64 (8)))),z 12 9 (.bin .neq (.t 11) (.c (.int .u64 (0)))),o 13 (pt 9 12),m 2 13] r))⟩
def qM:List (List Nat):=[]
def qQ:AFunc:=⟨96,[],(q (.draw [o 9 (ld 1 1),o 10 (.ext (.nilChk (.t 9))),o 11 (fa 0 10),o 12 (fa 9 11),o 13 (ld 1 12),o 14 (ld 1 1),o 15 (.ext (.nilChk (.t 14))),o 16 (fa 12 15),o 17 (ld 1 16),o 18 (ia 6 13 17),o 19 (fa 1 18),o 20 (ld 1 19),o 21 (ld 1 1),o 22 (.ext (.nilChk (.t 21))),o 23 (fa 0 22),o 24 (fa 9 23),o 25 (ld 1 24),o 26 (ld 1 1),o 27 (.ext (.nilChk (.t 26))),o 28 (fa 12 27),o 29 (ld 1 28),o 30 (ia 6 25 29),o 31 (fa 2 30),o 32 (ld 1 31),m 3 20,m 4 32]) (g [o 5 (.alloc [.int .u64 (0),iz,iz,.int .u64 (0),iz,.int .u64 (0),.int .u64 (0),.int .u64 (0)])] (g [W 6 kt] (bl 0 (lo [0,1,3,4,5,6] (q (bl 1 (g [o 34 (ld 1 1),m 35 3,m 36 4,o 37 (cg qZ [34,35,36]),m 33 37,o 38 (ex 33 0),o 39 (ex 33 1),o 7 (.alloc [.int .u64 (0),iz,iz,.int .u64 (0),iz,.int .u64 (0),.int .u64 (0),.int .u64 (0)]),s 8 7 (.t 38),m 8 39] (q (q (.draw [m 40 8,o 41 (.un .not (.t 40)),m 42 41,z 43 42 (mt 6),z 44 42 (.un .not (.t 43)),z 45 42 (mt 44),y 46 45 (ld 1 1),y 47 45 (.ext (.nilChk (.t 46))),y 48 45 (fa 0 47),y 49 45 (fa 0 48),y 50 45 (lg 3 49),y 51 45 (lg 8 5),y 52 45 (lg 8 7),y 53 45 (fa 2 7),y 54 45 (ld 1 53),y 55 45 (cg z0H [50,51,52,54]),y 56 45 (.un .not (.t 55)),z 57 42 (pf 45 56),o 58 (pt 42 57)]) (c 58 (g [o 59 (ld 1 1),o 60 (.ext (.nilChk (.t 59))),o 61 (fa 13 60),s 1 61 kt] r) k)) (q (g [m 62 6,o 63 (.un .not (.t 62)),m 64 63,y 65 64 (fa 5 5),y 66 64 (ld 1 65),y 67 64 (.bin .eql (.t 66) (.c (.int .u64 (0)))),o 68 (pf 64 67)] (c 68 (p [o 69 (fa 2 7),o 70 (ld 1 69),o 71 (bi .sub 70 1),o 72 (fa 2 7),s 1 72 (.t 71)]) k)) (q (g [m 73 0,o 74 (lg 8 7),o 75 (.call (.t 73) [(.t 74)]),o 76 (.un .not (.t 75))] (c 76 r k)) (q (g [o 77 (fa 7 7),o 78 (ld 1 77),o 79 (.bin .eql (.t 78) (.c (.int .u64 (0))))] (c 79 (g [o 80 (ld 1 1),o 81 (fa 5 7),o 82 (ld 1 81),o 83 (.bin .neq (.t 82) (.c (.int .u64 (0)))),m 84 83,z 85 84 (fa 6 7),z 86 84 (ld 1 85),z 87 84 (.bin .neq (.t 86) (.c (.int .u64 (0)))),o 88 (pt 84 87),o 89 (.ext (.nilChk (.t 80))),o 90 (fa 13 89),s 1 90 (.t 88)] r) k)) (.draw [o 91 (lg 8 7),o 92 (fa 7 7),w 93 (.ext (.wload false 1 (.t 92))),o 94 (fa 0 7),w 95 (.ext (.wload false 1 (.t 94))),s 8 5 (.t 91),m 3 93,m 4 95]))))))) (p [W 6 kf])))))))⟩
def qG:List (List Nat):=[[0,1,3,4,5,6],[777777,654321]]
def qP:AFunc:=⟨96,[.cell 6 true 8,.tmp 7],(g [o 6 (.alloc [.int .u64 (0),iz,iz,.int .u64 (0),iz,.int .u64 (0),.int .u64 (0),.int .u64 (0)]),W 7 kf] (g [m 15 0,o 16 (.ext (.nilChk (.t 15))),o 17 (fa 0 16),o 18 (fa 0 17),o 19 (lg 3 18),m 20 1,o 21 (cg uY [19,20]),m 14 21,o 22 (ex 14 0),o 23 (ex 14 1),o 24 (ex 14 2),m 8 22,m 9 23,m 10 24] (q (g [m 25 10,o 26 (bi .neq 25 0)] (c 26 (g [o 27 (.build [.int .u64 (0),iz,iz,.int .u64 (0),iz,.int .u64 (0),.int .u64 (0),.int .u64 (0)] []),s 8 6 (.t 27),W 7 kf] r) k)) (g [m 29 0,o 30 (.ext (.nilChk (.t 29))),o 31 (fa 0 30),o 32 (fa 0 31),o 33 (lg 3 32),m 34 1,o 35 (cg Qd [33,34]),m 28 35,o 36 (ex 28 0),o 37 (ex 28 1),m 11 36,m 10 37] (q (.draw [m 38 0,o 39 (.ext (.nilChk (.t 38))),o 40 (fa 0 39),o 41 (fa 8 40),o 42 (ld 1 41),m 43 0,o 44 (.ext (.nilChk (.t 43))),o 45 (fa 12 44),o 46 (ld 1 45),o 47 (ia 2 42 46),o 48 (fa 0 47),o 49 (ld 1 48),m 12 49]) (q (g [m 50 10,o 51 (bi .neq 50 0),m 52 51,z 53 52 (mt 11),z 54 52 (.conv .u64 (.t 53)),z 55 52 (mt 2),z 56 52 (mt 12),z 57 52 (b .sub 55 56),z 58 52 (b .gtr 54 57),o 59 (pt 52 58)] (c 59 (g [o 60 (.build [.int .u64 (0),iz,iz,.int .u64 (0),iz,.int .u64 (0),.int .u64 (0),.int .u64 (0)] []),s 8 6 (.t 60),W 7 kf] r) k)) (g [m 61 2,m 62 11,o 63 (.conv .u64 (.t 62)),o 64 (b .sub 61 63),m 65 8,m 66 9,m 67 1,m 68 11,o 69 (.build [.int .u64 (0),iz,iz,.int .u64 (0),iz,.int .u64 (0),.int .u64 (0),.int .u64 (0)] [(0,1,(.t 64)),(1,1,(.t 65)),(2,1,(.t 66)),(3,1,(.t 67)),(4,1,(.t 68))]),o 13 (.alloc [.int .u64 (0),iz,iz,.int .u64 (0),iz,.int .u64 (0),.int .u64 (0),.int .u64 (0)]),s 8 13 (.t 69)] (q (.draw [m 70 0,o 71 (fa 0 13),o 72 (ld 1 71),o 73 (cg yJ [70,72]),m 74 0,o 75 (fa 0 13),w 76 (ld 1 75),o 77 (.bin .add (.t 76) (.c (.int .u64 (8)))),o 78 (cg yJ [74,77]),m 79 0,o 80 (fa 0 13),w 81 (ld 1 80),o 82 (.bin .add (.t 81) (.c (.int .u64 (16)))),o 83 (cg yJ [79,82]),o 84 (fa 7 13),⟨none,.ext (.lst 1 (.t 84) (.t 73)),none,false⟩,o 85 (fa 5 13),⟨none,.ext (.lst 1 (.t 85) (.t 78)),none,false⟩,o 86 (fa 6 13),⟨none,.ext (.lst 1 (.t 86) (.t 83)),none,false⟩]) (q (.draw [o 87 (lg 8 13),o 88 (fa 7 13),w 89 (.ext (.wload false 1 (.t 88))),o 90 (.bin .eql (.t 89) (.c (.int .u64 (0)))),o 91 (fa 0 13),w 92 (.ext (.wload false 1 (.t 91))),m 93 12,o 94 (b .eql 92 93),o 95 (.beq false (.t 90) (.t 94)),s 8 6 (.t 87),m 7 95]) r)))))))))⟩
def qF:List (List Nat):=[[777777,654321]]
def z0r:AFunc:=⟨75,[.tmp 8],(g [o 4 (bx 3 0),o 5 (bx 8 1),o 6 (bx 8 2),W 8 kf] (g [o 11 (fa 2 4),o 12 (ld 1 11),o 13 (fa 1 6),o 14 (ld 1 13),o 15 (ia 7 12 14),o 16 (fa 4 15),o 17 (ld 1 16),m 9 17] (g [o 18 (.build [.int .u8 (0),.int .u8 (0),.int .u8 (0),.int .u8 (0)] [(0,1,(ku 25)),(1,1,(ku 34)),(2,1,(ku 0)),(3,1,(ku 0))]),o 10 (.alloc [.int .u8 (0),.int .u8 (0),.int .u8 (0),.int .u8 (0)]),s 4 10 (.t 18)] (q (q (.draw [o 19 (fa 5 5),o 20 (ld 1 19),o 21 (.bin .geq (.t 20) (.c (.int .u64 (4)))),m 22 21,z 23 22 (fa 6 5),z 24 22 (ld 1 23),z 25 22 (.bin .neq (.t 24) (.c (.int .u64 (0)))),z 26 22 (fa 5 5),z 27 22 (ld 1 26),z 28 22 (.iaddrA 4 1 (.t 10) (.t 27)),z 29 22 (ld 1 28),z 30 22 (bu .eql 29 0),z 31 22 (.beq true (.t 25) (.t 30)),o 32 (pt 22 31)]) (c 32 (g [W 8 kf] r) k)) (q (g [o 33 (fa 5 5),o 34 (ld 1 33)] (bl 0 (g [o 36 (.bin .eql (.t 34) (.c (.int .u64 (0)))),m 35 36] (c 35 (q (.draw [m 37 3,o 38 (bi .gtr 37 0),m 39 38,y 40 39 (mt 9),y 41 39 (mt 3),y 42 39 (bi .sub 41 1),y 43 39 (ia 4 40 42),y 44 39 (fa 0 43),y 45 39 (ld 1 44),y 46 39 (fa 5 5),y 47 39 (ld 1 46),y 48 39 (.iaddrA 4 1 (.t 10) (.t 47)),y 49 39 (ld 1 48),y 50 39 (b .eql 45 49),o 51 (pf 39 50),m 52 51,y 53 52 (mt 9),y 54 52 (mt 3),y 55 52 (bi .sub 54 1),y 56 52 (ia 4 53 55),y 57 52 (fa 2 56),y 58 52 (ld 1 57),y 59 52 (fa 1 5),y 60 52 (ld 1 59),y 61 52 (b .eql 58 60),o 62 (pf 52 61),m 8 62]) r) (g [o 64 (.bin .eql (.t 34) (.c (.int .u64 (1)))),m 63 64] (c 63 (q (.draw [m 65 9,m 66 3,o 67 (ia 4 65 66),o 68 (fa 0 67),o 69 (ld 1 68),o 70 (fa 5 5),o 71 (ld 1 70),o 72 (.iaddrA 4 1 (.t 10) (.t 71)),o 73 (ld 1 72),o 74 (b .eql 69 73),m 8 74]) r) k)))))) (g [W 8 kt] r))))))⟩
def QB:List (List Nat):=[[777777,654321]]
def z0t:AFunc:=⟨33,[.tmp 6,.tmp 7],(g [o 3 (bx 1 0),o 5 (bx 1 2),o 6 (v (.c (.int .u64 (0)))),V 7 0] (q (g [o 10 (ld 1 3),m 11 1,o 12 (cg xd [10,11]),m 8 12] (g [m 13 8,o 14 (bi .neq 13 0)] (c 14 (g [m 15 8,o 6 (v (.c (.int .u64 (0)))),m 7 15] r) k))) (q (g [o 16 (ld 1 5),o 17 (bi .lss 16 0),m 18 17,z 19 18 (ld 1 5),z 20 18 (mt 1),z 21 18 (b .geq 19 20),o 22 (pt 18 21)] (c 22 (g [o 6 (v (.c (.int .u64 (0)))),V 7 2] r) k)) (g [o 23 (ld 1 3),o 24 (le 23),o 25 (.mkfn (.func VY) [] [(.t 3),(.t 5)]),o 26 (cg VZ [24,25]),m 9 26] (g [o 27 (ld 1 3),m 28 9,o 29 (bi .sub 28 1),o 30 (ia 2 27 29),o 31 (fa 1 30),o 32 (ld 1 31),m 6 32,V 7 0] r)))))⟩
def QD:List (List Nat):=[]
def TX:AFunc:=⟨31,[.tmp 4,.tmp 5],(g [o 2 (bx 3 0),W 4 kn,V 5 0] (q (.draw [o 11 (fa 0 2),o 12 (ld 1 11),o 13 (fa 2 2),o 14 (ld 1 13),m 15 1,o 16 (ia 7 14 15),o 17 (fa 3 16),o 18 (ld 1 17),o 19 (cg ux [12,18]),m 10 19,o 20 (ex 10 0),o 21 (ex 10 1),o 22 (ex 10 2),o 23 (ex 10 3),m 6 20,m 7 21,m 8 22,m 9 23]) (g [m 25 7,o 26 (cg qu [25]),m 24 26,o 27 (ex 24 0),o 28 (ex 24 1),m 7 27] (g [m 29 6,m 30 7,m 4 29,m 5 30] r))))⟩
def Tp:List (List Nat):=[[777777,654321]]
def VM:AFunc:=⟨9,[.tmp 2,.tmp 3],(g [o 1 (bx 12 0),W 2 kn,V 3 0] (g [o 4 (fa 0 1),o 5 (lg 3 4),o 6 (cg qw [5]),o 7 (ex 6 0),o 8 (ex 6 1),m 2 7,m 3 8] r))⟩
def V5:List (List Nat):=[]
def W4:AFunc:=⟨53,[.tmp 2,.tmp 3],(g [o 1 (bx 3 0),W 2 kn,V 3 0] (q (g [o 10 (lg 3 1),o 11 (cg Qb [10]),o 12 (.un .not (.t 11))] (c 12 (g [W 2 kn,V 3 8] r) k)) (g [o 4 (.alloc [.nils])] (g [o 13 (fa 0 1),o 14 (ld 1 13),o 15 (cg qv [4,14])] (g [o 16 (fa 1 1),o 17 (ld 1 16),o 18 (le 17),o 19 (cg z5 [4,18])] (q (g [o 20 (fa 1 1),o 21 (ld 1 20),o 22 (le 21),V 23 0] (bl 0 (lo [1,4,21,22,23] (g [o 24 (b .lss 23 22)] (q (c 24 k (e 0)) (q (bl 1 (g [o 25 (ia 1 21 23),o 26 (ld 1 25),m 6 26] (p [m 27 6,o 28 (cg yy [4,27])]))) (p [o 29 (bi .add 23 1),m 23 29]))))))) (g [o 30 (fa 2 1),o 31 (ld 1 30),o 32 (le 31),o 33 (cg z5 [4,32])] (q (g [o 34 (fa 2 1),o 35 (ld 1 34),o 36 (le 35),V 37 0] (bl 2 (lo [4,35,36,37] (g [o 38 (b .lss 37 36)] (q (c 38 k (e 2)) (q (bl 3 (g [o 39 (ia 7 35 37),o 40 (lg 7 39),o 8 (.alloc [.str [],iz,iz,.nils,.nils,.nils,.nils]),s 7 8 (.t 40)] (g [o 41 (lg 7 8),o 42 (cg uy [4,41]),m 9 42] (g [m 43 9,o 44 (bi .neq 43 0)] (c 44 (g [m 45 9,W 2 kn,m 3 45] r) k))))) (p [o 46 (bi .add 37 1),m 37 46]))))))) (q (g [o 47 (fa 0 4),o 48 (ld 1 47),o 49 (le 48),o 50 (bi .gtr 49 20000)] (c 50 (g [W 2 kn,V 3 4] r) k)) (g [o 51 (fa 0 4),o 52 (ld 1 51),m 2 52,V 3 0] r))))))))))⟩
def YW:List (List Nat):=[[1,4,21,22,23],[4,35,36,37]]
def VL:AFunc:=⟨9,[.tmp 2,.tmp 3],(g [o 1 (bx 12 0),W 2 kn,V 3 0] (g [o 4 (fa 3 1),o 5 (lg 3 4),o 6 (cg jS [5]),o 7 (ex 6 0),o 8 (ex 6 1),m 2 7,m 3 8] r))⟩
def V4:List (List Nat):=[]
def jO:AFunc:=⟨21,[.tmp 2,.tmp 3],(g [o 1 (bx 3 0),W 2 kn,V 3 0] (q (g [o 5 (lg 3 1),o 6 (cg Yk [5]),o 7 (.un .not (.t 6))] (c 7 (g [W 2 kn,V 3 8] r) k)) (q (.draw [o 8 (fa 0 1),o 9 (ld 1 8),o 10 (li 1 [9]),o 11 (fa 1 1),o 12 (ld 1 11),o 13 (cg xA [12]),o 14 (ap 1 1 10 13),m 4 14]) (g [m 15 4,o 16 (fa 2 1),o 17 (ld 1 16),o 18 (.conv .u64 (.t 17)),o 19 (li 1 [18]),o 20 (cg yQ [15,19]),m 2 20,V 3 0] r))))⟩
def jz:List (List Nat):=[[777777,654321]]
def VK:AFunc:=⟨9,[.tmp 2,.tmp 3],(g [o 1 (bx 12 0),W 2 kn,V 3 0] (g [o 4 (fa 6 1),o 5 (lg 2 4),o 6 (cg jQ [5]),o 7 (ex 6 0),o 8 (ex 6 1),m 2 7,m 3 8] r))⟩
def V3:List (List Nat):=[]
def jM:AFunc:=⟨15,[.tmp 2,.tmp 3],(g [o 1 (bx 2 0),W 2 kn,V 3 0] (q (g [o 4 (lg 2 1),o 5 (cg t3 [4]),o 6 (.un .not (.t 5))] (c 6 (g [W 2 kn,V 3 8] r) k)) (q (.draw [o 7 (fa 1 1),o 8 (ld 1 7),o 9 (le 8),o 10 (.conv .u64 (.t 9)),o 11 (cg zu [10]),o 12 (fa 1 1),w 13 (ld 1 12),o 14 (ap 1 1 11 13),m 2 14,V 3 0]) r)))⟩
def jx:List (List Nat):=[[777777,654321]]
def VJ:AFunc:=⟨9,[.tmp 2,.tmp 3],(g [o 1 (bx 12 0),W 2 kn,V 3 0] (g [o 4 (fa 8 1),o 5 (ld 1 4),o 6 (cg qt [5]),o 7 (ex 6 0),o 8 (ex 6 1),m 2 7,m 3 8] r))⟩
def V2:List (List Nat):=[]
def qk:AFunc:=⟨27,[.tmp 2,.tmp 3],(g [W 2 kn,V 3 0] (q (g [m 8 0,o 9 (cg vE [8]),o 10 (.un .not (.t 9))] (c 10 (g [W 2 kn,V 3 8] r) k)) (g [m 11 0,o 12 (le 11),o 13 (.conv .u64 (.t 12)),o 14 (cg zu [13]),o 4 (.alloc [.nils]),s 1 4 (.t 14)] (g [o 15 (.mkfn (.func uX) [] [(.t 4)]),m 5 15] (q (g [m 16 0,o 17 (le 16),V 18 0] (bl 0 (lo [4,5,16,17,18] (g [o 19 (b .lss 18 17)] (q (c 19 k (e 0)) (q (bl 1 (g [o 20 (ia 2 16 18),o 21 (lg 2 20),o 7 (.alloc [.int .u64 (0),.nils]),s 2 7 (.t 21)] (p [m 22 5,o 23 (lg 2 7),o 24 (.call (.t 22) [(.t 23)])]))) (p [o 25 (bi .add 18 1),m 18 25]))))))) (g [o 26 (ld 1 4),m 2 26,V 3 0] r))))))⟩
def tS:List (List Nat):=[[4,5,16,17,18]]
def VI:AFunc:=⟨9,[.tmp 2,.tmp 3],(g [o 1 (bx 12 0),W 2 kn,V 3 0] (g [o 4 (fa 9 1),o 5 (ld 1 4),o 6 (cg jR [5]),o 7 (ex 6 0),o 8 (ex 6 1),m 2 7,m 3 8] r))⟩
def V1:List (List Nat):=[]
def jN:AFunc:=⟨51,[.tmp 2,.tmp 3],(g [W 2 kn,V 3 0] (q (g [m 7 0,o 8 (cg Zj [7]),o 9 (.un .not (.t 8))] (c 9 (g [W 2 kn,V 3 8] r) k)) (g [m 10 0,o 11 (le 10),o 12 (.conv .u64 (.t 11)),o 13 (li 1 [12]),o 14 (cf yQ [kn,(.t 13)]),m 4 14] (q (g [m 15 0,o 16 (le 15),V 17 0] (bl 0 (lo [4,15,16,17] (g [o 18 (b .lss 17 16)] (q (c 18 k (e 0)) (q (bl 1 (g [m 19 17,o 20 (ia 6 15 17),o 21 (lg 6 20),o 6 (.alloc [.int .u8 (0),.int .u64 (0),.int .u64 (0),.int .u64 (0),.int .u64 (0),iz]),m 5 19,s 6 6 (.t 21)] (g [m 22 4,o 23 (fa 0 6),o 24 (ld 1 23),o 25 (li 1 [24]),o 26 (ap 1 1 22 25),m 4 26] (q (.draw [m 27 4,o 28 (fa 1 6),o 29 (ld 1 28),o 30 (fa 2 6),o 31 (ld 1 30),m 32 5,o 33 (cg vf [32]),o 34 (b .sub 31 33),o 35 (.bin .quo (.t 34) (.c (.int .u64 (8)))),o 36 (fa 3 6),w 37 (ld 1 36),o 38 (.bin .quo (.t 37) (.c (.int .u64 (8)))),o 39 (fa 4 6),w 40 (ld 1 39),o 41 (.bin .quo (.t 40) (.c (.int .u64 (8)))),o 42 (li 1 [29,35,38,41]),o 43 (cg yQ [27,42]),m 4 43]) (p [m 44 4,o 45 (fa 5 6),o 46 (ld 1 45),o 47 (cg xA [46]),o 48 (ap 1 1 44 47),m 4 48]))))) (p [o 49 (bi .add 17 1),m 17 49]))))))) (g [m 50 4,m 2 50,V 3 0] r)))))⟩
def jy:List (List Nat):=[[4,15,16,17],[777777,654321]]
def VH:AFunc:=⟨9,[.tmp 2,.tmp 3],(g [o 1 (bx 12 0),W 2 kn,V 3 0] (g [o 4 (fa 10 1),o 5 (ld 1 4),o 6 (cg xX [5]),o 7 (ex 6 0),o 8 (ex 6 1),m 2 7,m 3 8] r))⟩
def V0:List (List Nat):=[]
def qX:AFunc:=⟨43,[.tmp 2,.tmp 3],(g [W 2 kn,V 3 0] (q (g [m 9 0,o 10 (cg kF [9]),o 11 (.un .not (.t 10))] (c 11 (g [W 2 kn,V 3 8] r) k)) (g [m 12 0,o 13 (le 12),o 14 (.conv .u64 (.t 13)),o 15 (li 1 [14]),o 16 (cf yQ [kn,(.t 15)]),m 4 16] (q (g [m 17 0,o 18 (le 17),V 19 0] (bl 0 (lo [4,17,18,19] (g [o 20 (b .lss 19 18)] (q (c 20 k (e 0)) (q (bl 1 (g [o 21 (ia 1 17 19),o 22 (ld 1 21),m 6 22] (g [m 23 4,m 24 6,o 25 (le 24),o 26 (.conv .u64 (.t 25)),o 27 (li 1 [26]),o 28 (cg yQ [23,27]),m 4 28] (g [m 29 6,o 30 (le 29),V 31 0] (bl 2 (lo [4,17,18,19,29,30,31] (g [o 32 (b .lss 31 30)] (q (c 32 k (e 2)) (q (bl 3 (g [o 33 (ia 1 29 31),o 34 (ld 1 33),m 8 34] (p [m 35 4,m 36 8,o 37 (.bin .quo (.t 36) (.c (.int .u64 (8)))),o 38 (li 1 [37]),o 39 (cg yQ [35,38]),m 4 39]))) (p [o 40 (bi .add 31 1),m 31 40])))))))))) (p [o 41 (bi .add 19 1),m 19 41]))))))) (g [m 42 4,m 2 42,V 3 0] r)))))⟩
def qN:List (List Nat):=[[4,17,18,19],[4,17,18,19,29,30,31]]
def VG:AFunc:=⟨9,[.tmp 2,.tmp 3],(g [o 1 (bx 12 0),W 2 kn,V 3 0] (g [o 4 (fa 11 1),o 5 (ld 1 4),o 6 (cg xX [5]),o 7 (ex 6 0),o 8 (ex 6 1),m 2 7,m 3 8] r))⟩
def WZ:List (List Nat):=[]
def Q3:AFunc:=⟨162,[.cell 4 true 4],(g [o 2 (bx 3 0),o 4 (.alloc [.nils,.nils,iz,iz])] (q (.draw [o 5 (.alloc [.nils,.nils,.nils,.str [],iz,iz,.nils,.nils,.nils,.nils]),o 22 (lg 3 2),o 23 (fa 2 2),o 24 (ld 1 23),m 25 1,o 26 (ia 7 24 25),o 27 (lg 7 26),o 28 (.build [.nils,.nils,.nils,.str [],iz,iz,.nils,.nils,.nils,.nils] [(0,3,(.t 22)),(3,7,(.t 27))]),s 10 5 (.t 28)]) (g [o 29 (fa 3 5),o 30 (fa 4 29),o 31 (ld 1 30),m 6 31] (g [m 33 6,o 34 (cg Wl [33]),m 32 34,o 35 (ex 32 0),o 36 (ex 32 1),m 7 35,m 8 36] (q (g [m 37 8,o 38 (bi .neq 37 0)] (c 38 (g [o 39 (.build [.nils,.nils,iz,iz] [(2,1,(ki (-1))),(3,1,(ki 12))]),s 4 4 (.t 39)] r) k)) (q (g [m 40 1,o 41 (bi .eql 40 0),m 42 41,y 43 42 (fa 3 5),y 44 42 (fa 1 43),y 45 42 (ld 1 44),y 46 42 (bi .gtr 45 0),y 47 42 (mt 46),z 48 47 (fa 3 5),z 49 47 (fa 2 48),z 50 47 (ld 1 49),z 51 47 (bi .geq 50 0),y 52 42 (pt 47 51),o 53 (pf 42 52)] (c 53 (g [o 54 (.build [.nils,.nils,iz,iz] [(2,1,(ki (-1))),(3,1,(ki 30))]),s 4 4 (.t 54)] r) k)) (q (g [m 55 6,o 56 (le 55),V 57 0] (bl 0 (lo [4,5,6,7,55,56,57] (g [o 58 (b .lss 57 56)] (q (c 58 k (e 0)) (q (bl 1 (g [m 59 57,o 60 (ia 4 55 57),o 61 (lg 4 60),o 10 (.alloc [.int .u8 (0),iz,iz,iz]),m 9 59,s 4 10 (.t 61)] (bl 2 (g [o 63 (lg 10 5),o 64 (lg 4 10),o 65 (cg tJ [63,64]),o 66 (bi .neq 65 0),m 62 66] (c 62 (g [m 67 9,o 68 (.build [.nils,.nils,iz,iz] [(2,1,(.t 67)),(3,1,(ki 16))]),s 4 4 (.t 68)] r) (g [m 70 7,m 71 9,o 72 (ia 1 70 71),o 73 (ld 1 72),o 74 (.un .not (.t 73)),m 69 74] (c 69 (g [m 75 9,o 76 (.build [.nils,.nils,iz,iz] [(2,1,(.t 75)),(3,1,(ki 6))]),s 4 4 (.t 76)] r) (g [o 78 (lg 10 5),o 79 (lg 4 10),o 80 (cg t0 [78,79]),o 81 (.un .not (.t 80)),m 77 81] (c 77 (g [m 82 9,o 83 (.build [.nils,.nils,iz,iz] [(2,1,(.t 82)),(3,1,(ki 30))]),s 4 4 (.t 83)] r) k))))))))) (p [o 84 (bi .add 57 1),m 57 84]))))))) (g [o 86 (lg 10 5),o 87 (cg ub [86]),m 85 87,o 88 (ex 85 0),o 89 (ex 85 1),m 11 88,m 12 89] (q (g [m 90 12,o 91 (.un .not (.t 90))] (c 91 (g [o 92 (.build [.nils,.nils,iz,iz] [(2,1,(ki (-1))),(3,1,(ki 36))]),s 4 4 (.t 92)] r) k)) (g [m 94 6,o 95 (fa 3 5),o 96 (fa 1 95),o 97 (ld 1 96),o 98 (fa 3 5),o 99 (fa 3 98),o 100 (ld 1 99),o 101 (le 100),o 102 (cg Qe [94,97,101]),m 93 102,o 103 (ex 93 0),o 104 (ex 93 1),m 13 103,m 8 104] (q (g [m 105 8,o 106 (bi .neq 105 0)] (c 106 (g [m 107 8,o 108 (.build [.nils,.nils,iz,iz] [(2,1,(ki (-1))),(3,1,(.t 107))]),s 4 4 (.t 108)] r) k)) (q (g [m 109 6,o 110 (le 109),V 111 0] (bl 3 (lo [4,11,13,109,110,111] (g [o 112 (b .lss 111 110)] (q (c 112 k (e 3)) (q (bl 4 (g [m 113 111,o 114 (ia 4 109 111),o 115 (lg 4 114),o 15 (.alloc [.int .u8 (0),iz,iz,iz]),m 14 113,s 4 15 (.t 115)] (g [o 117 (lg 4 15),o 118 (cg qs [117]),m 116 118,o 119 (ex 116 0),o 120 (ex 116 1),o 121 (ex 116 2),m 16 119,m 17 120,m 18 121] (g [m 122 16,o 123 (le 122),V 124 0] (bl 5 (lo [4,11,13,14,18,109,110,111,122,123,124] (g [o 125 (b .lss 124 123)] (q (c 125 k (e 5)) (q (bl 6 (g [o 126 (ia 1 122 124),o 127 (ld 1 126),m 20 127] (g [m 128 18,o 129 (bi .neq 128 0),m 130 129,z 131 130 (mt 13),z 132 130 (mt 14),z 133 130 (ia 1 131 132),z 134 130 (ld 1 133),z 135 130 (mt 20),z 136 130 (b .shr 134 135),z 137 130 (.bin .and (.t 136) (.c (.int .u64 (1)))),z 138 130 (.bin .eql (.t 137) (.c (.int .u64 (0)))),o 139 (pt 130 138)] (c 139 (g [m 140 14,o 141 (.build [.nils,.nils,iz,iz] [(2,1,(.t 140)),(3,1,(ki 38))]),s 4 4 (.t 141)] r) k)))) (p [o 142 (bi .add 124 1),m 124 142])))))))))) (p [o 143 (bi .add 111 1),m 111 143]))))))) (g [o 21 (.alloc [.nils,.nils,iz,iz])] (g [m 145 11,o 146 (cg jp [145]),m 144 146,o 147 (ex 144 0),o 148 (ex 144 1),o 149 (fa 0 21),s 1 149 (.t 147),o 150 (fa 3 21),s 1 150 (.t 148)] (q (g [o 151 (fa 3 21),o 152 (ld 1 151),o 153 (bi .eql 152 0)] (c 153 (p [m 155 13,o 156 (cg jp [155]),m 154 156,o 157 (ex 154 0),o 158 (ex 154 1),o 159 (fa 1 21),s 1 159 (.t 157),o 160 (fa 3 21),s 1 160 (.t 158)]) k)) (g [o 161 (lg 4 21),s 4 4 (.t 161)] r))))))))))))))))⟩
def Tw:List (List Nat):=[[4,5,6,7,55,56,57],[4,11,13,109,110,111],[4,11,13,14,18,109,110,111,122,123,124],[777777,654321]]
def xp:AFunc:=⟨26,[.tmp 4],(g [W 4 kf] (q (g [m 6 0,o 7 (le 6),m 8 1,o 9 (le 8),o 10 (b .neq 7 9)] (c 10 (g [W 4 kf] r) k)) (q (g [m 11 0,o 12 (le 11),V 13 0] (bl 0 (lo [0,1,12,13] (g [o 14 (b .lss 13 12)] (q (c 14 k (e 0)) (q (bl 1 (g [m 15 13,m 5 15] (q (.draw [m 16 0,m 17 5,o 18 (ia 2 16 17),o 19 (lg 2 18),m 20 1,m 21 5,o 22 (ia 2 20 21),o 23 (lg 2 22),o 24 (.ext (.eqA true 2 [(0,1),(1,1)] (.t 19) (.t 23)))]) (c 24 (g [W 4 kf] r) k)))) (p [o 25 (bi .add 13 1),m 13 25]))))))) (g [W 4 kt] r))))⟩
def xo:List (List Nat):=[[0,1,12,13],[777777,654321]]
def XX:AFunc:=⟨42,[.tmp 8,.tmp 9],(g [o 4 (bx 2 0),W 8 kn,V 9 0] (q (bl 0 (g [o 13 (lg 2 4),o 14 (cg t3 [13]),o 15 (.un .not (.t 14)),m 16 15,z 17 16 (mt 1),z 18 16 (cg vE [17]),z 19 16 (.un .not (.t 18)),o 20 (pt 16 19),m 12 20] (c 12 (g [W 8 kn,V 9 8] r) (g [m 22 3,o 23 (bi .lss 22 0),m 24 23,z 25 24 (mt 3),z 26 24 (bi .gtr 25 4096),o 27 (pt 24 26),m 21 27] (c 21 (g [W 8 kn,V 9 2] r) (g [m 29 2,o 30 (.bin .eql (.t 29) (.c (.int .u64 (0)))),m 28 30] (c 28 (g [W 8 kn,V 9 42] r) k))))))) (g [o 32 (lg 2 4),m 33 1,m 34 2,m 35 3,o 36 (cg U1 [32,33,34,35]),m 31 36,o 37 (ex 31 0),o 38 (ex 31 1),m 10 37,m 11 38] (q (g [m 39 11,o 40 (.un .not (.t 39))] (c 40 (g [W 8 kn,V 9 16] r) k)) (g [m 41 10,m 8 41,V 9 0] r)))))⟩
def YN:List (List Nat):=[]
def Vz:AFunc:=⟨33,[.tmp 4,.tmp 5],(g [W 4 kn,V 5 0] (q (g [m 10 0,m 11 1,o 12 (li 1 [11]),o 13 (cg U6 [10,12]),m 6 13] (g [m 14 6,o 15 (bi .neq 14 0)] (c 15 (g [m 16 6,W 4 kn,m 5 16] r) k))) (g [W 7 kn] (q (g [m 17 0,m 18 1,o 19 (cf Yi [(.t 17),(.t 18),kt]),o 20 (le 19),V 21 0] (bl 0 (lo [7,19,20,21] (g [o 22 (b .lss 21 20)] (q (c 22 k (e 0)) (q (bl 1 (g [m 23 21,o 24 (ia 1 19 21),o 25 (ld 1 24),m 8 23,m 9 25] (g [m 26 9] (c 26 (p [m 27 7,m 28 8,o 29 (li 1 [28]),o 30 (ap 1 8 27 29),m 7 30]) k)))) (p [o 31 (bi .add 21 1),m 21 31]))))))) (g [m 32 7,m 4 32,V 5 0] r)))))⟩
def WS:List (List Nat):=[[7,19,20,21]]
def zM:AFunc:=⟨9,[.tmp 4],(g [W 4 kf] (g [m 5 0,m 6 1,o 7 (cg yb [5,6]),o 8 (bi .geq 7 0),m 4 8] r))⟩
def zL:List (List Nat):=[]
def Y6:AFunc:=⟨6,[.tmp 2],(g [o 1 (bx 2 0),W 2 kf] (g [o 3 (lg 2 1),o 4 (cg qp [3]),o 5 (bi .neq 4 0),m 2 5] r))⟩
def ZS:List (List Nat):=[]
def XU:AFunc:=⟨13,[.tmp 2],(g [o 1 (bx 2 0),V 2 0] (q (g [o 3 (fa 0 1),o 4 (ld 1 3),o 5 (cg Wd [4]),o 6 (.un .not (.t 5)),m 7 6,z 8 7 (fa 1 1),z 9 7 (ld 1 8),z 10 7 (le 9),z 11 7 (bi .gtr 10 20000),o 12 (pt 7 11)] (c 12 (g [V 2 8] r) k)) (g [V 2 0] r)))⟩
def YK:List (List Nat):=[]
def Z9:AFunc:=⟨27,[.tmp 4],(g [o 2 (bx 2 0),o 3 (bx 2 1),W 4 kf] (g [o 5 (fa 0 2),o 6 (ld 1 5),o 7 (fa 0 3),o 8 (ld 1 7),o 9 (fa 1 3),o 10 (ld 1 9),o 11 (le 10),o 12 (.conv .u64 (.t 11)),o 13 (b .add 8 12),o 14 (b .lss 6 13),m 15 14,y 16 15 (fa 0 3),y 17 15 (ld 1 16),y 18 15 (fa 0 2),y 19 15 (ld 1 18),y 20 15 (fa 1 2),y 21 15 (ld 1 20),y 22 15 (le 21),y 23 15 (.conv .u64 (.t 22)),y 24 15 (b .add 19 23),y 25 15 (b .lss 17 24),o 26 (pf 15 25),m 4 26] r))⟩
def kN:List (List Nat):=[]
def XS:AFunc:=⟨37,[.tmp 6,.tmp 7],(g [o 3 (bx 2 0),V 6 0,W 7 kf] (q (g [m 9 1,o 10 (fa 0 3),o 11 (ld 1 10),o 12 (b .lss 9 11),m 13 12,z 14 13 (mt 1),z 15 13 (fa 0 3),z 16 13 (ld 1 15),z 17 13 (b .sub 14 16),z 18 13 (fa 1 3),z 19 13 (ld 1 18),z 20 13 (le 19),z 21 13 (.conv .u64 (.t 20)),z 22 13 (b .gtr 17 21),o 23 (pt 13 22)] (c 23 (g [V 6 0,W 7 kf] r) k)) (g [m 24 1,o 25 (fa 0 3),o 26 (ld 1 25),o 27 (b .sub 24 26),o 28 (.conv .i64 (.t 27)),m 8 28] (q (.draw [m 29 8,m 30 2,o 31 (fa 1 3),o 32 (ld 1 31),o 33 (le 32),m 34 8,o 35 (b .sub 33 34),o 36 (b .leq 30 35),m 6 29,m 7 36]) r))))⟩
def YI:List (List Nat):=[[777777,654321]]
def XZ:AFunc:=⟨30,[.tmp 4,.tmp 5],(g [W 4 kn,V 5 0] (q (g [m 8 0,o 9 (cg xB [8]),m 6 9] (g [m 10 6,o 11 (bi .neq 10 0)] (c 11 (g [m 12 6,W 4 kn,m 5 12] r) k))) (q (g [m 13 1,o 14 (bi .lss 13 0),m 15 14,z 16 15 (mt 1),z 17 15 (mt 0),z 18 15 (le 17),z 19 15 (b .geq 16 18),o 20 (pt 15 19)] (c 20 (g [W 4 kn,V 5 2] r) k)) (g [m 21 0,o 22 (cg uw [21]),m 7 22] (q (g [m 23 7,m 24 1,o 25 (ia 2 23 24),o 26 (fa 0 25),o 27 (ld 1 26),o 28 (bi .gtr 27 256)] (c 28 (g [W 4 kn,V 5 16] r) k)) (g [m 29 7,m 4 29,V 5 0] r))))))⟩
def YR:List (List Nat):=[]
def TP:AFunc:=⟨26,[.tmp 6,.tmp 7],(g [o 3 (bx 2 0),W 6 kf,V 7 0] (q (g [o 11 (lg 2 3),o 12 (cg qp [11]),m 8 12] (g [m 13 8,o 14 (bi .neq 13 0)] (c 14 (g [m 15 8,W 6 kf,m 7 15] r) k))) (q (g [m 16 2,o 17 (bi .lss 16 0)] (c 17 (g [W 6 kf,V 7 2] r) k)) (g [o 19 (lg 2 3),m 20 1,m 21 2,o 22 (cg vC [19,20,21]),m 18 22,o 23 (ex 18 0),o 24 (ex 18 1),m 9 23,m 10 24] (g [m 25 10,m 6 25,V 7 0] r)))))⟩
def Tg:List (List Nat):=[]
def vV:AFunc:=⟨8,[.tmp 2],(g [W 2 kn] (q (g [m 3 0,o 4 (.ext (.isNil false 0 (.t 3)))] (c 4 (g [W 2 kn] r) k)) (g [o 5 (li 1 []),m 6 0,o 7 (ap 1 1 5 6),m 2 7] r)))⟩
def vN:List (List Nat):=[]
def TM:AFunc:=⟨23,[.tmp 4],(g [o 4 (v (.c (.int .u64 (0))))] (g [o 5 (v (.c (.int .u64 (0))))] (q (g [V 6 7] (bl 0 (lo [0,1,5,6] (q (g [m 7 6,o 8 (bi .geq 7 0)] (c 8 k (e 0))) (q (bl 1 (p [m 11 5,o 12 (.bin .shl (.t 11) (.c (.int .u64 (8)))),m 13 0,m 14 1,o 15 (.bin .mul (ki 8) (.t 14)),m 16 6,o 17 (b .add 15 16),o 18 (ia 1 13 17),o 19 (ld 1 18),o 20 (.conv .u64 (.t 19)),o 21 (b .or 12 20),m 5 21])) (p [m 9 6,o 10 (bi .sub 9 1),m 6 10])))))) (g [m 22 5,m 4 22] r))))⟩
def Td:List (List Nat):=[[0,1,5,6]]
def qR:AFunc:=⟨25,[.tmp 6,.tmp 7],(g [o 3 (bx 2 0),o 6 (v (.c (.str []))),V 7 0] (q (g [m 10 2,o 11 (.bin .gtr (.t 10) (.c (.int .u64 (64))))] (c 11 (g [o 6 (v (.c (.str []))),V 7 12] r) k)) (q (g [m 12 2,o 13 (.bin .eql (.t 12) (.c (.int .u64 (0))))] (c 13 (g [o 6 (v (.c (.str []))),V 7 0] r) k)) (g [o 15 (lg 2 3),m 16 1,m 17 2,o 18 (.conv .i64 (.t 17)),o 19 (cg xW [15,16,18]),m 14 19,o 20 (ex 14 0),o 21 (ex 14 1),m 8 20,m 9 21] (g [m 22 8,o 23 (.toStr (.t 22)),m 24 9,m 6 23,m 7 24] r)))))⟩
def qH:List (List Nat):=[]
def tt:AFunc:=⟨79,[.cell 12 true 5,.tmp 13],(g [o 6 (bx 2 0),o 8 (bx 4 2),o 12 (.alloc [.int .u8 (0),iz,.str [],.nils,.bool false]),V 13 0] (g [o 21 (fa 0 6),o 22 (ld 1 21),o 23 (fa 1 8),o 24 (ld 1 23),o 25 (cg ky [22,24]),m 14 25] (g [o 27 (lg 2 6),m 28 1,m 29 14,m 30 4,o 31 (b .mul 29 30),o 32 (cg xW [27,28,31]),m 26 32,o 33 (ex 26 0),o 34 (ex 26 1),m 15 33,m 16 34] (g [o 35 (fa 0 8),o 36 (ld 1 35),o 37 (.build [.int .u8 (0),iz,.str [],.nils,.bool false] [(0,1,(.t 36))]),o 17 (.alloc [.int .u8 (0),iz,.str [],.nils,.bool false]),s 5 17 (.t 37)] (q (g [m 38 16,o 39 (bi .neq 38 0),m 40 39,z 41 40 (mt 3),z 42 40 (bi .eql 41 0),o 43 (pt 40 42)] (c 43 (g [o 44 (lg 5 17),m 45 16,s 5 12 (.t 44),m 13 45] r) k)) (q (g [m 46 5,o 47 (bi .eql 46 0)] (c 47 (g [o 48 (fa 4 17),s 1 48 kt] (g [o 49 (lg 5 17),s 5 12 (.t 49),V 13 0] r)) k)) (g [W 18 kn,W 19 kn] (q (g [m 50 3,V 51 0] (bl 0 (lo [5,6,8,12,14,15,17,18,19,50,51] (g [o 52 (b .lss 51 50)] (q (c 52 k (e 0)) (q (bl 1 (g [m 53 51,m 20 53] (p [m 54 18,o 55 (fa 1 8),o 56 (ld 1 55),o 57 (li 1 [56]),o 58 (ap 1 8 54 57),m 59 19,m 60 20,m 61 14,o 62 (b .mul 60 61),o 63 (li 1 [62]),o 64 (ap 1 8 59 63),m 18 58,m 19 64]))) (p [o 65 (bi .add 51 1),m 51 65]))))))) (g [o 67 (lg 2 6),m 68 15,m 69 18,m 70 19,m 71 5,o 72 (bi .sub 71 1),o 73 (cg xV [67,68,69,70,72]),m 66 73,o 74 (ex 66 0),o 75 (ex 66 1),o 76 (fa 3 17),s 1 76 (.t 74),m 16 75] (g [o 77 (lg 5 17),m 78 16,s 5 12 (.t 77),m 13 78] r))))))))))⟩
def te:List (List Nat):=[[5,6,8,12,14,15,17,18,19,50,51]]
def qT:AFunc:=⟨46,[.tmp 10,.tmp 11],(g [o 5 (bx 2 0),W 10 kn,V 11 0] (g [W 12 kn] (q (g [m 17 2,o 18 (le 17),V 19 0] (bl 0 (lo [1,3,4,5,12,17,18,19] (g [o 20 (b .lss 19 18)] (q (c 20 k (e 0)) (q (bl 1 (g [m 21 19,o 22 (ia 1 17 19),o 23 (ld 1 22),m 13 21,m 14 23] (q (.draw [o 15 (.alloc [.int .u8 (0),iz,.str [],.nils,.bool false]),o 25 (lg 2 5),m 26 1,m 27 3,m 28 13,o 29 (ia 1 27 28),o 30 (ld 1 29),o 31 (.slice 1 (.t 26) (some (.t 30)) none none),m 32 14,m 33 4,o 34 (cg xU [25,31,32,33]),m 24 34,o 35 (ex 24 0),o 36 (ex 24 1),s 5 15 (.t 35),m 16 36]) (q (g [m 37 16,o 38 (bi .neq 37 0)] (c 38 (g [m 39 16,W 10 kn,m 11 39] r) k)) (p [m 40 12,o 41 (lg 5 15),o 42 (li 5 [41]),o 43 (ap 5 64 40 42),m 12 43]))))) (p [o 44 (bi .add 19 1),m 19 44]))))))) (g [m 45 12,m 10 45,V 11 0] r))))⟩
def qJ:List (List Nat):=[[1,3,4,5,12,17,18,19],[777777,654321]]
def Vi:AFunc:=⟨30,[.tmp 2],(g [o 1 (bx 4 0),W 2 kn] (g [W 3 kn] (q (g [o 6 (fa 3 1),o 7 (ld 1 6),o 8 (le 7),V 9 0] (bl 0 (lo [1,3,7,8,9] (g [o 10 (b .lss 9 8)] (q (c 10 k (e 0)) (q (bl 1 (g [o 11 (ia 2 7 9),o 12 (lg 2 11),o 5 (.alloc [.str [],iz]),s 2 5 (.t 12)] (p [m 13 3,o 14 (fa 1 5),o 15 (ld 1 14),o 16 (li 1 [15]),o 17 (ap 1 8 13 16),m 3 17]))) (p [o 18 (bi .add 9 1),m 9 18]))))))) (q (g [o 19 (fa 2 1),o 20 (ld 1 19),V 21 0] (bl 2 (lo [1,3,20,21] (g [o 22 (b .lss 21 20)] (q (c 22 k (e 2)) (q (bl 3 (p [m 23 3,o 24 (fa 1 1),o 25 (ld 1 24),o 26 (li 1 [25]),o 27 (ap 1 8 23 26),m 3 27])) (p [o 28 (bi .add 21 1),m 21 28]))))))) (g [m 29 3,m 2 29] r)))))⟩
def WB:List (List Nat):=[[1,3,7,8,9],[1,3,20,21]]
def Y4:AFunc:=⟨40,[.tmp 4],(g [o 3 (bx 4 1),W 4 kn] (q (g [o 11 (fa 0 3),o 12 (ld 1 11),o 13 (bu .eql 12 5)] (c 13 (g [m 15 0,o 16 (fa 3 3),o 17 (ld 1 16),o 18 (cg ux [15,17]),m 14 18,o 19 (ex 14 0),o 20 (ex 14 1),o 21 (ex 14 2),o 22 (ex 14 3),m 5 19,m 6 20,m 7 21,m 8 22] (g [m 23 5,m 4 23] r)) k)) (g [W 9 kn] (q (g [o 24 (fa 2 3),o 25 (ld 1 24),V 26 0] (bl 0 (lo [0,3,9,25,26] (g [o 27 (b .lss 26 25)] (q (c 27 k (e 0)) (q (bl 1 (g [m 28 26,m 10 28] (p [m 29 9,m 30 10,m 31 0,o 32 (fa 1 3),o 33 (ld 1 32),o 34 (cg ky [31,33]),o 35 (b .mul 30 34),o 36 (li 1 [35]),o 37 (ap 1 8 29 36),m 9 37]))) (p [o 38 (bi .add 26 1),m 26 38]))))))) (g [m 39 9,m 4 39] r)))))⟩
def ZQ:List (List Nat):=[[0,3,9,25,26]]
def z0o:AFunc:=⟨9,[.tmp 2],(g [V 2 0] (q (g [m 3 0] (bl 0 (q (g [o 5 (bi .eql 3 1),m 4 5] (c 4 k (g [o 6 (bi .eql 3 2),m 4 6] (c 4 k (g [o 7 (bi .eql 3 4),m 4 7] (c 4 k (p [o 8 (bi .eql 3 8),m 4 8]))))))) (c 4 (g [V 2 0] r) k)))) (g [V 2 2] r)))⟩
def Qy:List (List Nat):=[]
def z0p:AFunc:=⟨15,[.tmp 2],(g [V 2 0] (q (g [m 5 0,o 6 (le 5),V 7 0] (bl 0 (lo [5,6,7] (g [o 8 (b .lss 7 6)] (q (c 8 k (e 0)) (q (bl 1 (g [o 9 (ia 1 5 7),o 10 (ld 1 9),m 4 10] (g [m 11 4,o 12 (bi .neq 11 0)] (c 12 (g [m 13 4,m 2 13] r) k)))) (p [o 14 (bi .add 7 1),m 7 14]))))))) (g [V 2 0] r)))⟩
def Qz:List (List Nat):=[[5,6,7]]
def z0w:AFunc:=⟨147,[.cell 2 true 12,.cell 3 false 1],(g [o 2 (.alloc [iz,iz,.bool false,.bool false,iz,iz,.bool false,.bool false,iz,iz,.bool false,.bool false]),o 3 (.alloc [iz])] (g [o 5 (.mkfn (.func U0) [] [(.t 2),(.t 3)]),m 4 5] (q (g [m 6 0] (bl 0 (q (bl 19 (q (bl 18 (q (bl 17 (q (bl 16 (q (bl 15 (q (bl 14 (q (bl 13 (q (bl 12 (q (bl 11 (q (bl 10 (q (bl 9 (q (bl 8 (q (bl 7 (q (bl 6 (q (bl 5 (q (bl 4 (q (bl 3 (q (bl 2 (q (bl 1 (q (q (q (g [o 8 (bu .eql 6 30),m 7 8] (c 7 k (p [o 9 (bu .eql 6 31),m 7 9]))) (c 7 (e 1) k)) (q (g [o 11 (bu .eql 6 1),m 10 11] (c 10 (e 2) k)) (q (g [o 13 (bu .eql 6 2),m 12 13] (c 12 (e 3) k)) (q (g [o 15 (bu .eql 6 3),m 14 15] (c 14 (e 4) k)) (q (q (g [o 17 (bu .eql 6 4),m 16 17] (c 16 k (p [o 18 (bu .eql 6 15),m 16 18]))) (c 16 (e 5) k)) (q (q (g [o 20 (bu .eql 6 6),m 19 20] (c 19 k (g [o 21 (bu .eql 6 7),m 19 21] (c 19 k (g [o 22 (bu .eql 6 8),m 19 22] (c 19 k (g [o 23 (bu .eql 6 9),m 19 23] (c 19 k (g [o 24 (bu .eql 6 10),m 19 24] (c 19 k (g [o 25 (bu .eql 6 11),m 19 25] (c 19 k (p [o 26 (bu .eql 6 19),m 19 26]))))))))))))) (c 19 (e 6) k)) (q (q (g [o 28 (bu .eql 6 5),m 27 28] (c 27 k (g [o 29 (bu .eql 6 12),m 27 29] (c 27 k (g [o 30 (bu .eql 6 16),m 27 30] (c 27 k (g [o 31 (bu .eql 6 18),m 27 31] (c 27 k (g [o 32 (bu .eql 6 21),m 27 32] (c 27 k (p [o 33 (bu .eql 6 33),m 27 33]))))))))))) (c 27 (e 7) k)) (q (g [o 35 (bu .eql 6 13),m 34 35] (c 34 (e 8) k)) (q (g [o 37 (bu .eql 6 14),m 36 37] (c 36 (e 9) k)) (q (g [o 39 (bu .eql 6 20),m 38 39] (c 38 (e 10) k)) (q (g [o 41 (bu .eql 6 17),m 40 41] (c 40 (e 11) k)) (q (g [o 43 (bu .eql 6 22),m 42 43] (c 42 (e 12) k)) (q (g [o 45 (bu .eql 6 23),m 44 45] (c 44 (e 13) k)) (q (q (g [o 47 (bu .eql 6 24),m 46 47] (c 46 k (g [o 48 (bu .eql 6 28),m 46 48] (c 46 k (p [o 49 (bu .eql 6 32),m 46 49]))))) (c 46 (e 14) k)) (q (g [o 51 (bu .eql 6 25),m 50 51] (c 50 (e 15) k)) (q (q (g [o 53 (bu .eql 6 26),m 52 53] (c 52 k (p [o 54 (bu .eql 6 27),m 52 54]))) (c 52 (e 16) k)) (q (g [o 56 (bu .eql 6 29),m 55 56] (c 55 (e 17) k)) (g [o 58 (bu .eql 6 34),m 57 58] (c 57 (e 18) k))))))))))))))))))) (e 19))) (e 0))) (g [m 59 4,o 60 (cg zE []),o 61 (cg z0J []),o 62 (li 4 [60,61]),o 63 (.call (.t 59) [(.t 62)])] (e 0)))) (g [m 64 4,o 65 (cg zE []),o 66 (cf zQ [(ki 32)]),o 67 (li 4 [65,66]),o 68 (.call (.t 64) [(.t 67)])] (e 0)))) (g [m 69 4,o 70 (cg zE []),o 71 (cf zQ [(ki 2)]),o 72 (li 4 [70,71]),o 73 (.call (.t 69) [(.t 72)])] (e 0)))) (g [m 74 4,o 75 (cg zE []),o 76 (li 4 [75]),o 77 (.call (.t 74) [(.t 76)])] (e 0)))) (p [o 78 (cg zk []),o 79 (.iaddrA 3 4 (.t 2) (ki 2)),s 4 79 (.t 78)]))) (q (g [o 80 (cg zE []),o 81 (cg zk []),o 82 (.iaddrA 3 4 (.t 2) (ki 0)),s 4 82 (.t 80),o 83 (.iaddrA 3 4 (.t 2) (ki 1)),s 4 83 (.t 81),s 1 3 (ki 2)] (g [o 84 (.iaddrA 3 4 (.t 2) (ki 2)),o 85 (fa 2 84),o 86 (ld 1 85)] (c 86 (p [s 1 3 (ki 3)]) k))) (e 0)))) (g [m 87 4,o 88 (cg zE []),o 89 (cg zk []),o 90 (cf zQ [(ki 8)]),o 91 (li 4 [88,89,90]),o 92 (.call (.t 87) [(.t 91)])] (e 0)))) (g [m 93 4,o 94 (cg zk []),o 95 (cf zQ [(ki 8)]),o 96 (cg zk []),o 97 (li 4 [94,95,96]),o 98 (.call (.t 93) [(.t 97)])] (e 0)))) (g [m 99 4,o 100 (cg zk []),o 101 (cg zk []),o 102 (cg zk []),o 103 (li 4 [100,101,102]),o 104 (.call (.t 99) [(.t 103)])] (e 0)))) (g [m 105 4,o 106 (cg zk []),o 107 (cg zk []),o 108 (li 4 [106,107]),o 109 (.call (.t 105) [(.t 108)])] (e 0)))) (g [m 110 4,o 111 (cf zQ [(ki 200)]),o 112 (li 4 [111]),o 113 (.call (.t 110) [(.t 112)])] (e 0)))) (g [m 114 4,o 115 (cg zk []),o 116 (cf zQ [(ki 200)]),o 117 (li 4 [115,116]),o 118 (.call (.t 114) [(.t 117)])] (e 0)))) (g [m 119 4,o 120 (cg zk []),o 121 (li 4 [120]),o 122 (.call (.t 119) [(.t 121)])] (e 0)))) (q (g [m 123 4,o 124 (cg zE []),o 125 (cf zQ [(ki 32)]),o 126 (li 4 [124,125]),o 127 (.call (.t 123) [(.t 126)])] (p [o 128 (.iaddrA 3 4 (.t 2) (ki 0)),o 129 (fa 0 128),s 1 129 (ki (-1))])) (e 0)))) (g [m 130 4,o 131 (cf zQ [(ki 32)]),o 132 (li 4 [131]),o 133 (.call (.t 130) [(.t 132)])] (e 0)))) (g [m 134 4,o 135 (cg zE []),o 136 (cg zE []),o 137 (li 4 [135,136]),o 138 (.call (.t 134) [(.t 137)])] (e 0)))) (q (g [m 139 4,o 140 (cg zk []),o 141 (li 4 [140]),o 142 (.call (.t 139) [(.t 141)])] (p [o 143 (.iaddrA 3 4 (.t 2) (ki 0)),o 144 (fa 0 143),s 1 144 (ki (-1))])) (e 0)))) (g [s 1 3 (ki (-1))] (e 0))))) (q (.draw [o 145 (lg 12 2),w 146 (.ext (.wload false 1 (.t 3))),s 12 2 (.t 145),⟨none,.ext (.lst 1 (.t 3) (.t 146)),none,false⟩]) r))))⟩
def QG:List (List Nat):=[[777777,654321]]
def z0z:AFunc:=⟨36,[.tmp 2],(g [o 1 (bx 4 0),V 2 0] (g [o 8 (fa 0 1),o 9 (ld 1 8),o 10 (cg qr [9]),m 7 10,o 11 (ex 7 0),o 12 (ex 7 1),o 3 (.alloc [iz,iz,.bool false,.bool false,iz,iz,.bool false,.bool false,iz,iz,.bool false,.bool false]),s 12 3 (.t 11),m 4 12] (q (g [m 13 4,o 14 (bi .lss 13 0)] (c 14 (g [V 2 8] r) k)) (q (g [o 15 (lg 4 1),o 16 (cg vD [15]),V 17 0] (bl 0 (lo [3,16,17] (g [o 18 (bi .lss 17 3)] (q (c 18 k (e 0)) (q (bl 1 (g [m 19 17,o 20 (.indexA 3 1 false (.t 16) (.t 17)),m 5 19,m 6 20] (g [m 21 6,m 22 5,o 23 (.iaddrA 3 4 (.t 3) (.t 22)),o 24 (fa 0 23),o 25 (ld 1 24),o 26 (b .lss 21 25),m 27 26,z 28 27 (mt 6),z 29 27 (mt 5),z 30 27 (.iaddrA 3 4 (.t 3) (.t 29)),z 31 27 (fa 1 30),z 32 27 (ld 1 31),z 33 27 (b .gtr 28 32),o 34 (pt 27 33)] (c 34 (g [V 2 8] r) k)))) (p [o 35 (bi .add 17 1),m 17 35]))))))) (g [V 2 0] r)))))⟩
def QJ:List (List Nat):=[[3,16,17]]
def TT:AFunc:=⟨118,[.tmp 4],(g [W 4 kf] (g [m 10 0,m 11 1,o 12 (ia 4 10 11),o 13 (lg 4 12),o 5 (.alloc [.int .u8 (0),iz,iz,.nils]),s 4 5 (.t 13)] (g [o 6 (v (.c (.fn (.func Wj) [] [])))] (q (g [o 14 (fa 0 5),o 15 (ld 1 14)] (bl 0 (q (g [o 17 (bu .eql 15 1),m 16 17] (c 16 k (g [o 18 (bu .eql 15 2),m 16 18] (c 16 k (p [o 19 (bu .eql 15 3),m 16 19]))))) (c 16 (g [o 20 (fa 1 5),o 21 (ld 1 20),o 22 (fa 2 5),o 23 (ld 1 22),o 24 (fa 3 5),o 25 (ld 1 24),o 26 (le 25),o 27 (li 1 [21,23,26]),o 28 (cg ve [27]),m 4 28] r) (q (g [o 30 (bu .eql 15 4),m 29 30] (c 29 k (p [o 31 (bu .eql 15 7),m 29 31]))) (c 29 (g [m 32 6,o 33 (fa 1 5),o 34 (ld 1 33),m 35 0,o 36 (le 35),o 37 (.call (.t 32) [(.t 34),(.t 36)]),m 38 37,y 39 38 (fa 2 5),y 40 38 (ld 1 39),y 41 38 (fa 3 5),y 42 38 (ld 1 41),y 43 38 (le 42),y 44 38 (li 1 [40,43]),y 45 38 (cg ve [44]),o 46 (pf 38 45),m 4 46] r) (g [o 48 (bu .eql 15 6),m 47 48] (c 47 (g [m 49 6,o 50 (fa 1 5),o 51 (ld 1 50),m 52 1,o 53 (.call (.t 49) [(.t 51),(.t 52)]),m 54 53,y 55 54 (mt 6),y 56 54 (fa 2 5),y 57 54 (ld 1 56),y 58 54 (bi .sub 57 1),y 59 54 (.call (.t 55) [(.t 58),(ki 16)]),o 60 (pf 54 59),m 61 60,y 62 61 (fa 3 5),y 63 61 (ld 1 62),y 64 61 (le 63),y 65 61 (li 1 [64]),y 66 61 (cg ve [65]),o 67 (pf 61 66),m 4 67] r) (g [o 69 (bu .eql 15 5),m 68 69] (c 68 (g [o 70 (.ext .mkmap),m 7 70] (q (g [o 71 (fa 3 5),o 72 (ld 1 71),o 73 (le 72),V 74 0] (bl 1 (lo [1,5,6,7,72,73,74] (g [o 75 (b .lss 74 73)] (q (c 75 k (e 1)) (q (bl 2 (g [o 76 (ia 2 72 74),o 77 (lg 2 76),o 9 (.alloc [.str [],iz]),s 2 9 (.t 77)] (q (g [o 78 (fa 0 9),o 79 (ld 1 78),o 80 (cg u7 [79]),o 81 (.un .not (.t 80)),m 82 81,z 83 82 (mt 7),z 84 82 (fa 0 9),z 85 82 (ld 1 84),z 86 82 (.ext (.mget true (.bool false) (.t 83) (.t 85))),o 87 (pt 82 86),m 88 87,z 89 88 (mt 6),z 90 88 (fa 1 9),z 91 88 (ld 1 90),z 92 88 (mt 1),z 93 88 (.call (.t 89) [(.t 91),(.t 92)]),z 94 88 (.un .not (.t 93)),o 95 (pt 88 94)] (c 95 (g [W 4 kf] r) k)) (p [m 96 7,o 97 (fa 0 9),o 98 (ld 1 97),⟨none,.ext (.mput true (.t 96) (.t 98) kt),none,false⟩])))) (p [o 99 (bi .add 74 1),m 74 99]))))))) (g [o 100 (fa 1 5),o 101 (ld 1 100),o 102 (fa 2 5),o 103 (ld 1 102),o 104 (li 1 [101,103]),o 105 (cg ve [104]),m 106 105,y 107 106 (fa 3 5),y 108 106 (ld 1 107),y 109 106 (le 108),y 110 106 (bi .gtr 109 0),o 111 (pf 106 110),m 112 111,y 113 112 (fa 3 5),y 114 112 (ld 1 113),y 115 112 (le 114),y 116 112 (bi .leq 115 8),o 117 (pf 112 116),m 4 117] r))) k)))))))))) (g [W 4 kf] r)))))⟩
def Tl:List (List Nat):=[[1,5,6,7,72,73,74]]
def W2:AFunc:=⟨82,[.tmp 2],(g [W 2 kn] (g [m 10 0,o 11 (le 10),o 12 (.make 1 8 [iz] (.t 11) (.t 11)),m 3 12] (q (g [V 13 0] (bl 0 (lo [0,3,13,999999] (g [o 14 (bi .lss 13 4)] (q (c 14 k (e 0)) (q (bl 1 (g [m 15 0,o 16 (le 15),o 17 (.make 1 8 [iz] (.t 16) (.t 16)),m 4 17] (q (g [m 18 0,o 19 (le 18),V 20 0] (bl 2 (lo [0,3,4,13,18,19,20] (g [o 21 (b .lss 20 19)] (q (c 21 k (e 2)) (q (bl 3 (g [m 22 20,o 23 (ia 4 18 20),o 24 (lg 4 23),o 6 (.alloc [.int .u8 (0),iz,iz,.nils]),m 5 22,s 4 6 (.t 24)] (g [V 7 1] (q (g [o 25 (fa 0 6),o 26 (ld 1 25)] (bl 4 (g [o 28 (bu .eql 26 4),m 27 28] (c 27 (p [m 29 7,m 30 3,o 31 (fa 1 6),o 32 (ld 1 31),o 33 (ia 1 30 32),o 34 (ld 1 33),o 35 (b .add 29 34),m 7 35]) (g [o 37 (bu .eql 26 7),m 36 37] (c 36 (p [m 38 7,m 39 3,o 40 (fa 1 6),o 41 (ld 1 40),o 42 (ia 1 39 41),o 43 (ld 1 42),o 44 (.bin .mul (ki 16) (.t 43)),o 45 (b .add 38 44),m 7 45]) (g [o 47 (bu .eql 26 6),m 46 47] (c 46 (.draw [m 48 7,o 49 (fa 2 6),o 50 (ld 1 49),m 51 4,o 52 (fa 1 6),o 53 (ld 1 52),o 54 (ia 1 51 53),o 55 (ld 1 54),o 56 (b .mul 50 55),o 57 (b .add 48 56),m 7 57]) k)))))))) (q (g [o 58 (fa 3 6),o 59 (ld 1 58),o 60 (le 59),V 61 0] (bl 5 (lo [0,3,4,5,7,13,18,19,20,59,60,61] (g [o 62 (b .lss 61 60)] (q (c 62 k (e 5)) (q (bl 6 (g [o 63 (ia 2 59 61),o 64 (lg 2 63),o 9 (.alloc [.str [],iz]),s 2 9 (.t 64)] (p [m 65 7,m 66 4,o 67 (fa 1 9),o 68 (ld 1 67),o 69 (ia 1 66 68),o 70 (ld 1 69),o 71 (b .add 65 70),m 7 71]))) (p [o 72 (bi .add 61 1),m 61 72]))))))) (p [m 73 4,m 74 5,m 75 7,o 76 (.mn (.t 75) (ki 5001)),o 77 (ia 1 73 74),s 1 77 (.t 76)])))))) (p [o 78 (bi .add 20 1),m 20 78]))))))) (p [m 79 4,m 3 79])))) (p [o 80 (bi .add 13 1),m 13 80]))))))) (g [m 81 3,m 2 81] r))))⟩
def YU:List (List Nat):=[[0,3,13,999999],[0,3,4,13,18,19,20],[0,3,4,5,7,13,18,19,20,59,60,61],[777777,654321]]
def VA:AFunc:=⟨47,[.tmp 2],(g [W 2 kf] (q (g [m 5 0,o 6 (.lenS (.t 5)),o 7 (bi .eql 6 0),m 8 7,z 9 8 (mt 0),z 10 8 (.lenS (.t 9)),z 11 8 (bi .gtr 10 16),o 12 (pt 8 11),m 13 12,z 14 13 (mt 0),z 15 13 (.indexS (.t 14) (ki 0)),z 16 13 (bu .leq 15 57),o 17 (pt 13 16)] (c 17 (g [W 2 kf] r) k)) (q (g [m 18 0,o 19 (.toBytes (.t 18)),o 20 (le 19),V 21 0] (bl 0 (lo [19,20,21] (g [o 22 (b .lss 21 20)] (q (c 22 k (e 0)) (q (bl 1 (g [o 23 (ia 1 19 21),o 24 (ld 1 23),m 4 24] (g [m 25 4,o 26 (bu .or 25 32),o 27 (bu .lss 26 97),m 28 27,z 29 28 (mt 4),z 30 28 (bu .or 29 32),z 31 28 (bu .gtr 30 122),o 32 (pt 28 31),m 33 32,z 34 33 (mt 4),z 35 33 (bu .and 34 64),z 36 33 (bu .eql 35 0),o 37 (pt 33 36),m 38 37,y 39 38 (mt 4),y 40 38 (bu .lss 39 48),y 41 38 (mt 40),z 42 41 (mt 4),z 43 41 (bu .gtr 42 57),y 44 38 (pt 41 43),o 45 (pf 38 44)] (c 45 (g [W 2 kf] r) k)))) (p [o 46 (bi .add 21 1),m 21 46]))))))) (g [W 2 kt] r))))⟩
def WT:List (List Nat):=[[19,20,21]]
def VC:AFunc:=⟨24,[.tmp 2],(g [W 2 kf] (q (g [m 5 0,o 6 (le 5),V 7 0] (bl 0 (lo [0,5,6,7] (g [o 8 (b .lss 7 6)] (q (c 8 k (e 0)) (q (bl 1 (g [m 9 7,o 10 (ia 2 5 7),o 11 (lg 2 10),o 4 (.alloc [.str [],iz]),m 3 9,s 2 4 (.t 11)] (g [o 12 (fa 0 4),o 13 (ld 1 12),o 14 (cg u7 [13]),o 15 (.un .not (.t 14)),m 16 15,z 17 16 (mt 0),z 18 16 (mt 3),z 19 16 (.slice 2 (.t 17) none (some (.t 18)) none),z 20 16 (.mkfn (.func Yj) [] [(.t 4)]),z 21 16 (cg zY [19,20]),o 22 (pt 16 21)] (c 22 (g [W 2 kf] r) k)))) (p [o 23 (bi .add 7 1),m 7 23]))))))) (g [W 2 kt] r)))⟩
def WV:List (List Nat):=[[0,5,6,7]]
def XR:AFunc:=⟨15,[.tmp 4],(g [V 4 0] (q (g [m 6 1,o 7 (cg uu [6]),m 5 7] (g [m 8 5,o 9 (bi .neq 8 0)] (c 9 (g [m 10 5,m 4 10] r) k))) (q (g [m 11 0,m 12 1,o 13 (cg VX [11,12]),o 14 (.un .not (.t 13))] (c 14 (g [V 4 8] r) k)) (g [V 4 0] r))))⟩
def YG:List (List Nat):=[]
def x9:AFunc:=⟨19,[.tmp 4],(g [V 4 0] (q (g [m 6 0,o 7 (le 6),V 8 0] (bl 0 (lo [0,1,7,8] (g [o 9 (b .lss 8 7)] (q (c 9 k (e 0)) (q (bl 1 (g [m 10 8,m 5 10] (g [m 11 1,m 12 0,m 13 5,o 14 (ia 1 12 13),o 15 (ld 1 14),o 16 (.call (.t 11) [(.t 15)])] (c 16 (g [m 17 5,m 4 17] r) k)))) (p [o 18 (bi .add 8 1),m 8 18]))))))) (g [V 4 (-1)] r)))⟩
def x4:List (List Nat):=[[0,1,7,8]]
def TZ:AFunc:=⟨62,[.tmp 4,.tmp 5],(g [o 2 (bx 3 0),V 4 0,V 5 0] (g [o 14 (lg 3 2),m 15 1,o 16 (cg uY [14,15]),m 13 16,o 17 (ex 13 0),o 18 (ex 13 1),o 19 (ex 13 2),m 6 17,m 7 18,m 8 19] (q (g [m 20 8,o 21 (bi .neq 20 0)] (c 21 (g [m 22 8,V 4 0,m 5 22] r) k)) (g [o 24 (lg 3 2),m 25 6,o 26 (cg kG [24,25]),m 23 26,o 27 (ex 23 0),o 28 (ex 23 1),m 9 27,m 10 28] (q (.draw [o 30 (fa 2 2),o 31 (ld 1 30),m 32 6,o 33 (ia 7 31 32),o 34 (fa 5 33),o 35 (ld 1 34),o 36 (fa 2 2),o 37 (ld 1 36),m 38 6,o 39 (ia 7 37 38),o 40 (fa 4 39),o 41 (ld 1 40),o 42 (le 41),m 43 7,o 44 (cg ZL [35,42,43]),m 29 44,o 45 (ex 29 0),o 46 (ex 29 1),m 11 45,m 12 46]) (q (g [m 47 11,o 48 (.bin .gtr (.t 47) (.c (.int .u64 (4096)))),m 49 48,z 50 49 (mt 10),z 51 49 (.bin .add (ki 24) (.t 50)),z 52 49 (mt 11),z 53 49 (.conv .i64 (.t 52)),z 54 49 (b .add 51 53),z 55 49 (bi .gtr 54 4096),o 56 (pt 49 55)] (c 56 (g [V 4 0,V 5 16] r) k)) (g [m 57 10,o 58 (.bin .add (ki 24) (.t 57)),m 59 11,o 60 (.conv .i64 (.t 59)),o 61 (b .add 58 60),m 4 61,V 5 0] r)))))))⟩
def Ts:List (List Nat):=[[777777,654321]]
def jJ:AFunc:=⟨23,[.tmp 4],(g [o 4 (v (.c (.int .u64 (0))))] (q (.draw [m 8 0,o 9 (.ext (.nilChk (.t 8))),o 10 (fa 0 9),o 11 (fa 6 10),o 12 (lg 2 11),m 13 0,o 14 (.ext (.nilChk (.t 13))),o 15 (fa 0 14),o 16 (fa 8 15),o 17 (ld 1 16),m 18 1,o 19 (cg U3 [12,17,18]),m 7 19,o 20 (ex 7 0),o 21 (ex 7 1),m 5 20,m 6 21]) (g [m 22 5,m 4 22] r)))⟩
def ju:List (List Nat):=[[777777,654321]]
def Vn:AFunc:=⟨26,[.tmp 4],(g [V 4 0] (g [m 8 0,V 5 0,m 6 8] (q (bl 0 (lo [1,5,6] (q (g [m 9 5,m 10 6,o 11 (b .lss 9 10)] (c 11 k (e 0))) (bl 1 (g [m 12 5,m 13 6,o 14 (b .add 12 13),o 15 (.conv .u64 (.t 14)),o 16 (.bin .shr (.t 15) (.c (.int .u64 (1)))),o 17 (.conv .i64 (.t 16)),m 7 17] (g [m 18 1,m 19 7,o 20 (.call (.t 18) [(.t 19)]),o 21 (.un .not (.t 20))] (c 21 (p [m 22 7,o 23 (bi .add 22 1),m 5 23]) (p [m 24 7,m 6 24])))))))) (g [m 25 5,m 4 25] r))))⟩
def WG:List (List Nat):=[[1,5,6]]
def Vm:AFunc:=⟨12,[.tmp 4],(g [W 4 kf] (q (.draw [o 5 (ld 1 1),m 6 0,o 7 (ia 2 5 6),o 8 (fa 0 7),o 9 (ld 1 8),o 10 (ld 1 2),o 11 (b .gtr 9 10),m 4 11]) r))⟩
def WF:List (List Nat):=[[777777,654321]]
def Zc:AFunc:=⟨67,[.tmp 4,.tmp 5,.tmp 6,.tmp 7],(g [W 4 kn,V 5 0,V 6 0,V 7 0] (q (g [m 15 0,o 16 (cg xB [15]),m 8 16] (g [m 17 8,o 18 (bi .neq 17 0)] (c 18 (g [m 19 8,W 4 kn,V 5 0,V 6 0,m 7 19] r) k))) (q (g [m 20 1,o 21 (le 20),o 22 (bi .gtr 21 16)] (c 22 (g [W 4 kn,V 5 0,V 6 0,V 7 4] r) k)) (g [m 23 0,o 24 (cg uw [23]),m 9 24] (q (g [m 25 1,o 26 (le 25),V 27 0] (bl 0 (lo [0,1,9,25,26,27] (g [o 28 (b .lss 27 26)] (q (c 28 k (e 0)) (q (bl 1 (g [o 29 (ia 2 25 27),o 30 (lg 2 29),o 11 (.alloc [.str [],iz]),s 2 11 (.t 30)] (g [o 31 (fa 1 11),o 32 (ld 1 31),o 33 (bi .lss 32 0),m 34 33,z 35 34 (fa 1 11),z 36 34 (ld 1 35),z 37 34 (mt 0),z 38 34 (le 37),z 39 34 (b .geq 36 38),o 40 (pt 34 39)] (c 40 (g [W 4 kn,V 5 0,V 6 0,V 7 2] r) k)))) (p [o 41 (bi .add 27 1),m 27 41]))))))) (q (g [m 42 1,o 43 (le 42),V 44 0] (bl 2 (lo [1,9,42,43,44] (g [o 45 (b .lss 44 43)] (q (c 45 k (e 2)) (q (bl 3 (g [o 46 (ia 2 42 44),o 47 (lg 2 46),o 13 (.alloc [.str [],iz]),s 2 13 (.t 47)] (g [m 48 9,o 49 (fa 1 13),o 50 (ld 1 49),o 51 (ia 2 48 50),o 52 (fa 0 51),o 53 (ld 1 52),o 54 (bi .gtr 53 256)] (c 54 (g [W 4 kn,V 5 0,V 6 0,V 7 16] r) k)))) (p [o 55 (bi .add 44 1),m 44 55]))))))) (g [m 57 9,m 58 1,o 59 (cg kE [57,58]),m 56 59,o 60 (ex 56 0),o 61 (ex 56 1),o 14 (.alloc [iz,iz]),m 4 60,s 2 14 (.t 61)] (q (.draw [m 62 4,o 63 (fa 0 14),o 64 (ld 1 63),o 65 (fa 1 14),o 66 (ld 1 65),m 4 62,m 5 64,m 6 66,V 7 0]) r))))))))⟩
def kS:List (List Nat):=[[0,1,9,25,26,27],[1,9,42,43,44],[777777,654321]]
def W0:AFunc:=⟨13,[.tmp 2,.tmp 3],(g [V 2 0,V 3 0] (q (g [m 4 0,o 5 (bi .lss 4 0),m 6 5,z 7 6 (mt 0),z 8 6 (bi .gtr 7 1073741824),o 9 (pt 6 8)] (c 9 (g [V 2 0,V 3 2] r) k)) (g [m 10 0,o 11 (bi .add 10 7),o 12 (bi .andNot 11 7),m 2 12,V 3 0] r)))⟩
def YS:List (List Nat):=[]
def ql:AFunc:=⟨53,[],(g [m 6 0,m 7 1,o 8 (le 7),o 9 (cg z5 [6,8])] (g [m 10 1,o 11 (le 10),V 12 0] (bl 0 (lo [0,10,11,12] (g [o 13 (b .lss 12 11)] (q (c 13 k (e 0)) (q (bl 1 (g [o 14 (ia 4 10 12),o 15 (lg 4 14),o 5 (.alloc [.int .u8 (0),iz,iz,.nils]),s 4 5 (.t 15)] (q (.draw [m 16 0,m 17 0,o 18 (.ext (.nilChk (.t 17))),o 19 (fa 0 18),o 20 (ld 1 19),o 21 (fa 0 5),o 22 (ld 1 21),o 23 (li 1 [22]),o 24 (ap 1 1 20 23),o 25 (.ext (.nilChk (.t 16))),o 26 (fa 0 25),s 1 26 (.t 24)]) (g [o 27 (fa 0 5),o 28 (ld 1 27)] (bl 2 (q (g [o 30 (bu .eql 28 4),m 29 30] (c 29 k (p [o 31 (bu .eql 28 7),m 29 31]))) (c 29 (p [m 32 0,o 33 (fa 1 5),o 34 (ld 1 33),o 35 (cg z5 [32,34])]) (g [o 37 (bu .eql 28 6),m 36 37] (c 36 (g [m 38 0,o 39 (fa 1 5),o 40 (ld 1 39),o 41 (cg z5 [38,40])] (p [m 42 0,o 43 (fa 2 5),o 44 (ld 1 43),o 45 (cg z5 [42,44])])) (g [o 47 (bu .eql 28 5),m 46 47] (c 46 (p [m 48 0,o 49 (fa 3 5),o 50 (ld 1 49),o 51 (cg xn [48,50])]) k))))))))))) (p [o 52 (bi .add 12 1),m 12 52]))))))))⟩
def tT:List (List Nat):=[[0,10,11,12],[777777,654321]]
def tw:AFunc:=⟨15,[],(.draw [m 4 0,m 5 0,o 6 (.ext (.nilChk (.t 5))),o 7 (fa 0 6),o 8 (ld 1 7),m 9 1,o 10 (.conv .u64 (.t 9)),o 11 (cg zu [10]),o 12 (ap 1 1 8 11),o 13 (.ext (.nilChk (.t 4))),o 14 (fa 0 13),s 1 14 (.t 12)])⟩
def th:List (List Nat):=[[777777,654321]]
def qV:AFunc:=⟨17,[],(g [m 4 0,m 5 1,o 6 (.lenS (.t 5)),o 7 (cg z5 [4,6])] (p [m 8 0,m 9 0,o 10 (.ext (.nilChk (.t 9))),o 11 (fa 0 10),o 12 (ld 1 11),m 13 1,o 14 (ap 1 1 12 13),o 15 (.ext (.nilChk (.t 8))),o 16 (fa 0 15),s 1 16 (.t 14)]))⟩
def qL:List (List Nat):=[]
def uq:AFunc:=⟨97,[.tmp 4],(g [o 3 (bx 7 1),V 4 0] (g [m 13 0,o 14 (fa 0 3),o 15 (ld 1 14),o 16 (cg yy [13,15])] (g [m 17 0,o 18 (fa 1 3),o 19 (ld 1 18),o 20 (cg z5 [17,19])] (q (.draw [m 21 0,m 22 0,o 23 (.ext (.nilChk (.t 22))),o 24 (fa 0 23),o 25 (ld 1 24),o 26 (fa 2 3),o 27 (ld 1 26),o 28 (cg xA [27]),o 29 (ap 1 1 25 28),o 30 (.ext (.nilChk (.t 21))),o 31 (fa 0 30),s 1 31 (.t 29)]) (g [m 32 0,o 33 (fa 3 3),o 34 (ld 1 33),o 35 (cg xn [32,34])] (g [m 36 0,o 37 (fa 4 3),o 38 (ld 1 37),o 39 (le 38),o 40 (cg z5 [36,39])] (q (g [o 41 (fa 4 3),o 42 (ld 1 41),o 43 (le 42),V 44 0] (bl 0 (lo [0,3,42,43,44] (g [o 45 (b .lss 44 43)] (q (c 45 k (e 0)) (q (bl 1 (g [o 46 (ia 4 42 44),o 47 (lg 4 46),o 6 (.alloc [.int .u8 (0),iz,iz,iz]),s 4 6 (.t 47)] (g [o 49 (lg 4 6),o 50 (cg Q9 [49]),m 48 50,o 51 (ex 48 0),o 52 (ex 48 1),m 7 51,m 8 52] (q (g [m 53 8,o 54 (bi .neq 53 0)] (c 54 (g [m 55 8,m 4 55] r) k)) (p [m 56 0,m 57 0,o 58 (.ext (.nilChk (.t 57))),o 59 (fa 0 58),o 60 (ld 1 59),m 61 7,o 62 (ap 1 1 60 61),o 63 (.ext (.nilChk (.t 56))),o 64 (fa 0 63),s 1 64 (.t 62)]))))) (p [o 65 (bi .add 44 1),m 44 65]))))))) (q (g [o 66 (fa 5 3),o 67 (ld 1 66),o 68 (fa 6 3),o 69 (ld 1 68),o 70 (li 1 [67,69]),o 71 (le 70),V 72 0] (bl 2 (lo [0,3,70,71,72] (g [o 73 (b .lss 72 71)] (q (c 73 k (e 2)) (q (bl 3 (g [o 74 (ia 1 70 72),o 75 (ld 1 74),m 10 75] (g [m 77 10,o 78 (fa 4 3),o 79 (ld 1 78),o 80 (le 79),o 81 (cg Yg [77,80]),m 76 81,o 82 (ex 76 0),o 83 (ex 76 1),m 11 82,m 12 83] (q (g [m 84 12,o 85 (bi .neq 84 0)] (c 85 (g [m 86 12,m 4 86] r) k)) (p [m 87 0,m 88 0,o 89 (.ext (.nilChk (.t 88))),o 90 (fa 0 89),o 91 (ld 1 90),m 92 11,o 93 (ap 1 1 91 92),o 94 (.ext (.nilChk (.t 87))),o 95 (fa 0 94),s 1 95 (.t 93)]))))) (p [o 96 (bi .add 72 1),m 72 96]))))))) (g [V 4 0] r)))))))))⟩
def ug:List (List Nat):=[[0,3,42,43,44],[0,3,70,71,72],[777777,654321]]
def Vg:AFunc:=⟨11,[.tmp 2],(g [W 2 kn] (g [m 3 0,o 4 (.conv .u64 (.t 3)),o 5 (.bin .shl (.t 4) (.c (.int .u64 (1)))),m 6 0,o 7 (.bin .shr (.t 6) (.c (.int .u64 (63)))),o 8 (.conv .u64 (.t 7)),o 9 (b .xor 5 8),o 10 (cg zu [9]),m 2 10] r))⟩
def Wz:List (List Nat):=[]
def z0A:AFunc:=⟨19,[.tmp 4],(g [W 4 kn] (q (g [m 7 1,o 8 (le 7),V 9 0] (bl 0 (lo [0,7,8,9] (g [o 10 (b .lss 9 8)] (q (c 10 k (e 0)) (q (bl 1 (g [o 11 (ia 1 7 9),o 12 (ld 1 11),m 6 12] (p [m 13 0,m 14 6,o 15 (cg zu [14]),o 16 (ap 1 1 13 15),m 0 16]))) (p [o 17 (bi .add 9 1),m 9 17]))))))) (g [m 18 0,m 4 18] r)))⟩
def QK:List (List Nat):=[[0,7,8,9]]
def z0q:AFunc:=⟨20,[.tmp 2],(g [W 2 kn] (g [o 3 (.alloc [.nils])] (g [o 5 (.mkfn (.func VT) [] [(.t 3)]),m 4 5] (q (bl 0 (lo [0,3,4] (q (g [m 6 0,o 7 (.bin .geq (.t 6) (.c (.int .u64 (128))))] (c 7 k (e 0))) (q (bl 1 (p [m 10 4,m 11 0,o 12 (.conv .u8 (.t 11)),o 13 (bu .or 12 128),o 14 (.call (.t 10) [(.t 13)])])) (p [m 8 0,o 9 (.bin .shr (.t 8) (.c (.int .u64 (7)))),m 0 9]))))) (g [m 15 4,m 16 0,o 17 (.conv .u8 (.t 16)),o 18 (.call (.t 15) [(.t 17)])] (g [o 19 (ld 1 3),m 2 19] r))))))⟩
def QA:List (List Nat):=[[0,3,4]]
def uQ:AFunc:=⟨14,[],(g [o 2 (bx 2 0)] (q (.draw [o 3 (ld 1 1),o 4 (fa 1 2),o 5 (ld 1 4),o 6 (le 5),o 7 (.conv .u64 (.t 6)),o 8 (cg zu [7]),o 9 (ap 1 1 3 8),s 1 1 (.t 9)]) (p [o 10 (ld 1 1),o 11 (fa 1 2),o 12 (ld 1 11),o 13 (ap 1 1 10 12),s 1 1 (.t 13)])))⟩
def uC:List (List Nat):=[[777777,654321]]
def W6:AFunc:=⟨23,[.tmp 2,.tmp 3],(g [W 2 kn,V 3 0] (q (g [m 6 0,o 7 (cg uZ [6]),m 4 7] (g [m 8 4,o 9 (bi .neq 8 0)] (c 9 (g [m 10 4,W 2 kn,m 3 10] r) k))) (g [m 11 0,o 12 (le 11),o 13 (.make 1 1 [.bool false] (.t 12) (.t 12)),o 5 (.alloc [.nils]),s 1 5 (.t 13)] (g [m 14 0,o 15 (.mkfn (.func Zk) [] [(.t 5)]),o 16 (cg jr [14,15])] (g [o 17 (ld 1 5),o 18 (ld 1 5),o 19 (le 18),o 20 (bi .sub 19 1),o 21 (ia 1 17 20),s 1 21 kt] (g [o 22 (ld 1 5),m 2 22,V 3 0] r))))))⟩
def YY:List (List Nat):=[]
def tD:AFunc:=⟨57,[.tmp 4],(g [o 2 (bx 10 0),o 3 (bx 4 1),V 4 0] (g [o 12 (lg 4 3),o 13 (cg qs [12]),m 11 13,o 14 (ex 11 0),o 15 (ex 11 1),o 16 (ex 11 2),m 5 14,m 6 15,m 7 16] (q (g [m 17 7,o 18 (bi .neq 17 0)] (c 18 (g [m 19 7,m 4 19] r) k)) (q (g [m 20 5,m 21 6,o 22 (ap 1 8 20 21),o 23 (le 22),V 24 0] (bl 0 (lo [2,3,22,23,24] (g [o 25 (b .lss 24 23)] (q (c 25 k (e 0)) (q (bl 1 (g [o 26 (ia 1 22 24),o 27 (ld 1 26),m 9 27] (g [o 28 (fa 3 2),o 29 (fa 3 28),o 30 (ld 1 29),m 31 9,o 32 (cg zG [30,31]),o 33 (.un .not (.t 32))] (c 33 (g [V 4 16] r) k)))) (p [o 34 (bi .add 24 1),m 24 34]))))))) (q (g [o 35 (lg 4 3),o 36 (cg qx [35]),m 10 36] (g [m 37 10,o 38 (fa 0 2),o 39 (fa 2 38),o 40 (ld 1 39),o 41 (le 40),o 42 (b .geq 37 41),m 43 42,z 44 43 (fa 0 3),z 45 43 (ld 1 44),z 46 43 (bu .eql 45 2),z 47 43 (mt 46),y 48 47 (fa 0 2),y 49 47 (fa 1 48),y 50 47 (ld 1 49),y 51 47 (fa 2 3),y 52 47 (ld 1 51),y 53 47 (cg tH [50,52]),y 54 47 (.un .not (.t 53)),z 55 43 (pf 47 54),o 56 (pt 43 55)] (c 56 (g [V 4 16] r) k))) (g [V 4 0] r))))))⟩
def tp:List (List Nat):=[[2,3,22,23,24]]
def uS:AFunc:=⟨244,[.tmp 4],(g [o 2 (bx 10 0),o 3 (bx 4 1),W 4 kf] (q (.draw [o 10 (lg 10 2),o 11 (fa 1 3),o 12 (ld 1 11),o 13 (cg zy [10,12]),w 14 (lg 10 2),o 15 (fa 2 3),w 16 (ld 1 15),o 17 (cg zy [14,16]),w 18 (lg 10 2),o 19 (fa 3 3),w 20 (ld 1 19),o 21 (cg zy [18,20]),m 5 13,m 6 17,m 7 21]) (g [o 22 (.mkfn (.func ua) [] [(.t 2)]),m 8 22] (g [o 23 (.mkfn (.func u9) [] [(.t 2)]),m 9 23] (q (g [o 24 (fa 0 3),o 25 (ld 1 24)] (bl 0 (q (g [o 27 (bu .eql 25 1),m 26 27] (c 26 k (p [o 28 (bu .eql 25 32),m 26 28]))) (c 26 (g [m 29 8,m 30 5,o 31 (li 1 [30]),o 32 (.call (.t 29) [(.t 31)]),m 4 32] r) (g [o 34 (bu .eql 25 2),m 33 34] (c 33 (g [o 35 (lg 10 2),m 36 5,o 37 (.lit 1 [(ku 3)]),o 38 (cg z7 [35,36,37]),m 4 38] r) (q (g [o 40 (bu .eql 25 3),m 39 40] (c 39 k (p [o 41 (bu .eql 25 23),m 39 41]))) (c 39 (g [m 42 9,m 43 5,o 44 (.call (.t 42) [(.t 43)]),m 4 44] r) (g [o 46 (bu .eql 25 5),m 45 46] (c 45 (g [m 47 5,m 48 6,o 49 (b .eql 47 48),m 4 49] r) (q (g [o 51 (bu .eql 25 6),m 50 51] (c 50 k (g [o 52 (bu .eql 25 7),m 50 52] (c 50 k (g [o 53 (bu .eql 25 8),m 50 53] (c 50 k (p [o 54 (bu .eql 25 9),m 50 54]))))))) (c 50 (g [m 55 8,m 56 5,m 57 6,m 58 7,o 59 (li 1 [56,57,58]),o 60 (.call (.t 55) [(.t 59)]),m 4 60] r) (g [o 62 (bu .eql 25 10),m 61 62] (c 61 (g [m 63 9,m 64 5,o 65 (.call (.t 63) [(.t 64)]),m 66 65,y 67 66 (mt 8),y 68 66 (mt 6),y 69 66 (mt 7),y 70 66 (li 1 [68,69]),y 71 66 (.call (.t 67) [(.t 70)]),o 72 (pf 66 71),m 4 72] r) (g [o 74 (bu .eql 25 11),m 73 74] (c 73 (g [m 75 9,m 76 5,o 77 (.call (.t 75) [(.t 76)]),m 78 77,y 79 78 (mt 6),y 80 78 (mt 7),y 81 78 (b .eql 79 80),o 82 (pf 78 81),m 83 82,y 84 83 (lg 10 2),y 85 83 (mt 6),y 86 83 (.lit 1 [(ku 2),(ku 1),(ku 4)]),y 87 83 (cg z7 [84,85,86]),o 88 (pf 83 87),m 4 88] r) (g [o 90 (bu .eql 25 12),m 89 90] (c 89 (g [m 91 9,m 92 5,o 93 (.call (.t 91) [(.t 92)]),m 94 93,y 95 94 (mt 9),y 96 94 (mt 6),y 97 94 (.call (.t 95) [(.t 96)]),o 98 (pf 94 97),m 4 98] r) (g [o 100 (bu .eql 25 13),m 99 100] (c 99 (g [o 101 (lg 10 2),m 102 6,o 103 (fa 3 3),o 104 (ld 1 103),m 105 5,o 106 (cg yR [101,102,104,105]),m 4 106] r) (g [o 108 (bu .eql 25 14),m 107 108] (c 107 (g [o 109 (lg 10 2),m 110 5,o 111 (fa 2 3),o 112 (ld 1 111),m 113 7,o 114 (cg yR [109,110,112,113]),m 4 114] r) (g [o 116 (bu .eql 25 15),m 115 116] (c 115 (g [o 117 (lg 10 2),m 118 5,o 119 (.lit 1 [(ku 4)]),o 120 (cg z7 [117,118,119]),m 4 120] r) (g [o 122 (bu .eql 25 16),m 121 122] (c 121 (g [o 123 (lg 10 2),m 124 6,m 125 5,o 126 (.lit 1 [(ku 4)]),o 127 (cg zA [123,124,125,126]),m 4 127] r) (g [o 129 (bu .eql 25 17),m 128 129] (c 128 (g [o 130 (lg 10 2),m 131 5,m 132 6,o 133 (.lit 1 [(ku 4)]),o 134 (cg zA [130,131,132,133]),m 4 134] r) (g [o 136 (bu .eql 25 18),m 135 136] (c 135 (g [o 137 (lg 10 2),m 138 5,o 139 (.lit 1 [(ku 7)]),o 140 (cg z7 [137,138,139]),m 141 140,y 142 141 (mt 8),y 143 141 (mt 6),y 144 141 (li 1 [143]),y 145 141 (.call (.t 142) [(.t 144)]),o 146 (pf 141 145),m 4 146] r) (g [o 148 (bu .eql 25 19),m 147 148] (c 147 (g [o 149 (lg 10 2),m 150 6,m 151 5,o 152 (.lit 1 [(ku 7),(ku 6)]),o 153 (cg zA [149,150,151,152]),m 154 153,y 155 154 (mt 8),y 156 154 (mt 7),y 157 154 (li 1 [156]),y 158 154 (.call (.t 155) [(.t 157)]),o 159 (pf 154 158),m 4 159] r) (g [o 161 (bu .eql 25 20),m 160 161] (c 160 (g [o 162 (lg 10 2),m 163 5,m 164 7,o 165 (.lit 1 [(ku 7),(ku 6)]),o 166 (cg zA [162,163,164,165]),m 167 166,y 168 167 (mt 8),y 169 167 (mt 6),y 170 167 (li 1 [169]),y 171 167 (.call (.t 168) [(.t 170)]),o 172 (pf 167 171),m 4 172] r) (g [o 174 (bu .eql 25 21),m 173 174] (c 173 (g [m 175 8,m 176 5,o 177 (li 1 [176]),o 178 (.call (.t 175) [(.t 177)]),m 179 178,y 180 179 (lg 10 2),y 181 179 (mt 6),y 182 179 (.lit 1 [(ku 3),(ku 7),(ku 6)]),y 183 179 (cg z7 [180,181,182]),o 184 (pf 179 183),m 4 184] r) (g [o 186 (bu .eql 25 25),m 185 186] (c 185 (g [o 187 (fa 1 3),o 188 (ld 1 187),o 189 (bi .lss 188 0),m 190 189,z 191 190 (fa 0 2),z 192 190 (fa 2 191),z 193 190 (ld 1 192),z 194 190 (fa 2 3),z 195 190 (ld 1 194),z 196 190 (ia 7 193 195),z 197 190 (fa 2 196),z 198 190 (ld 1 197),z 199 190 (mt 5),z 200 190 (b .eql 198 199),o 201 (pt 190 200),m 4 201] r) (q (g [o 203 (bu .eql 25 26),m 202 203] (c 202 k (p [o 204 (bu .eql 25 27),m 202 204]))) (c 202 (q (.draw [o 205 (lg 10 2),o 206 (fa 0 2),o 207 (fa 2 206),o 208 (ld 1 207),o 209 (fa 1 3),o 210 (ld 1 209),o 211 (ia 7 208 210),o 212 (lg 7 211),o 213 (cg t1 [205,212]),m 4 213]) r) (g [o 215 (bu .eql 25 28),m 214 215] (c 214 (g [o 216 (lg 10 2),m 217 5,o 218 (.lit 1 [(ku 2),(ku 1),(ku 3)]),o 219 (cg z7 [216,217,218]),m 4 219] r) (q (g [o 221 (bu .eql 25 29),m 220 221] (c 220 k (p [o 222 (bu .eql 25 33),m 220 222]))) (c 220 (g [m 223 9,m 224 5,o 225 (.call (.t 223) [(.t 224)]),m 226 225,y 227 226 (mt 8),y 228 226 (mt 6),y 229 226 (li 1 [228]),y 230 226 (.call (.t 227) [(.t 229)]),o 231 (pf 226 230),m 4 231] r) (g [o 233 (bu .eql 25 34),m 232 233] (c 232 (g [o 234 (fa 1 3),o 235 (ld 1 234),o 236 (bi .lss 235 0),m 237 236,z 238 237 (fa 3 2),z 239 237 (fa 2 238),z 240 237 (ld 1 239),z 241 237 (mt 5),z 242 237 (b .eql 240 241),o 243 (pt 237 242),m 4 243] r) k)))))))))))))))))))))))))))))))))))))))))))))) (g [W 4 kt] r))))))⟩
def uD:List (List Nat):=[[777777,654321]]
def u0:AFunc:=⟨136,[.tmp 2,.tmp 3],(g [o 1 (bx 10 0),W 2 kn,W 3 kf] (g [o 20 (fa 3 1),o 21 (fa 4 20),o 22 (ld 1 21),m 4 22] (q (.draw [m 23 4,o 24 (le 23),o 25 (.make 1 24 [.nils] (.t 24) (.t 24)),m 26 4,o 27 (le 26),o 28 (.make 1 1 [.bool false] (.t 27) (.t 27)),m 5 25,m 6 28]) (g [m 29 6,o 30 (.iaddr 1 (.t 29) (ki 0)),s 1 30 kt] (q (g [o 31 (.ext (.litB 1 [(ki 0)])),m 7 31] (bl 0 (lo [1,4,5,6,7] (q (g [m 32 7,o 33 (le 32),o 34 (bi .gtr 33 0)] (c 34 k (e 0))) (bl 1 (g [m 35 7,m 36 7,o 37 (le 36),o 38 (bi .sub 37 1),o 39 (ia 1 35 38),o 40 (ld 1 39),m 8 40] (g [m 41 7,m 42 7,o 43 (le 42),o 44 (bi .sub 43 1),o 45 (.slice 1 (.t 41) none (some (.t 44)) none),m 7 45] (q (.draw [o 47 (lg 10 1),m 48 4,m 49 8,o 50 (ia 4 48 49),o 51 (lg 4 50),m 52 5,m 53 8,o 54 (ia 1 52 53),o 55 (ld 1 54),o 56 (cg tI [47,51,55]),m 46 56,o 57 (ex 46 0),o 58 (ex 46 1),m 9 57,m 10 58]) (g [m 60 4,m 61 8,o 62 (cg z0K [60,61]),m 59 62,o 63 (ex 59 0),o 64 (ex 59 1),m 11 63,m 12 64] (q (g [m 65 10,o 66 (.un .not (.t 65)),m 67 66,z 68 67 (mt 12),z 69 67 (bi .neq 68 0),o 70 (pt 67 69)] (c 70 (g [W 2 kn,W 3 kf] r) k)) (g [m 71 11,o 72 (le 71),V 73 0] (bl 2 (lo [1,4,5,6,7,9,71,72,73] (g [o 74 (b .lss 73 72)] (q (c 74 k (e 2)) (q (bl 3 (g [o 75 (ia 1 71 73),o 76 (ld 1 75),m 14 76] (bl 4 (g [m 78 6,m 79 14,o 80 (ia 1 78 79),o 81 (ld 1 80),o 82 (.un .not (.t 81)),m 77 82] (c 77 (p [m 83 5,m 84 14,m 85 6,m 86 14,m 87 9,m 88 7,m 89 14,o 90 (li 1 [89]),o 91 (ap 1 8 88 90),o 92 (ia 1 83 84),s 1 92 (.t 87),o 93 (ia 1 85 86),s 1 93 kt,m 7 91]) (g [m 95 5,m 96 14,o 97 (ia 1 95 96),o 98 (ld 1 97),m 99 9,o 100 (cg uW [98,99]),o 101 (.un .not (.t 100)),m 94 101] (c 94 (g [W 2 kn,W 3 kf] r) k))))))) (p [o 102 (bi .add 73 1),m 73 102]))))))))))))))))) (g [m 103 4,o 104 (le 103),o 105 (.make 1 8 [.int .u64 (0)] (.t 104) (.t 104)),m 15 105] (q (g [m 106 5,o 107 (le 106),V 108 0] (bl 5 (lo [1,4,5,15,106,107,108] (g [o 109 (b .lss 108 107)] (q (c 109 k (e 5)) (q (bl 6 (g [m 110 108,o 111 (ia 1 106 108),o 112 (ld 1 111),m 16 110,m 17 112] (g [o 114 (lg 10 1),m 115 17,o 116 (cg xi [114,115]),m 113 116,o 117 (ex 113 0),o 118 (ex 113 1),m 18 117,m 19 118] (q (g [m 119 19,o 120 (bi .neq 119 0)] (c 120 (g [W 2 kn,W 3 kf] r) k)) (p [m 121 15,m 122 16,m 123 18,o 124 (.conv .u64 (.t 123)),o 125 (ia 1 121 122),s 1 125 (.t 124)]))))) (p [o 126 (bi .add 108 1),m 108 126]))))))) (q (.draw [m 127 15,m 128 5,m 129 4,o 130 (le 129),o 131 (bi .sub 130 1),o 132 (ia 1 128 131),o 133 (ld 1 132),o 134 (le 133),o 135 (bi .eql 134 0),m 2 127,m 3 135]) r))))))))⟩
def vR:List (List Nat):=[[1,4,5,6,7],[1,4,5,6,7,9,71,72,73],[1,4,5,15,106,107,108],[777777,654321,31]]
def Q0:AFunc:=⟨87,[.tmp 6,.tmp 7],(g [o 4 (bx 1 1),W 6 kn,V 7 0] (q (g [m 17 0,o 18 (cg uZ [17]),m 8 18] (g [m 19 8,o 20 (bi .neq 19 0)] (c 20 (g [m 21 8,W 6 kn,m 7 21] r) k))) (q (g [m 22 2,o 23 (bi .lss 22 0),m 24 23,z 25 24 (mt 2),z 26 24 (bi .gtr 25 16),o 27 (pt 24 26),m 28 27,z 29 28 (ld 1 4),z 30 28 (bi .lss 29 0),o 31 (pt 28 30),m 32 31,z 33 32 (ld 1 4),z 34 32 (mt 2),z 35 32 (b .gtr 33 34),o 36 (pt 32 35)] (c 36 (g [W 6 kn,V 7 2] r) k)) (g [m 37 0,o 38 (le 37),o 39 (.make 1 8 [.int .u64 (0)] (.t 38) (.t 38)),o 9 (.alloc [.nils]),s 1 9 (.t 39)] (q (g [m 40 0,o 41 (le 40),V 42 0] (bl 0 (lo [0,2,4,9,40,41,42] (g [o 43 (b .lss 42 41)] (q (c 43 k (e 0)) (q (bl 1 (g [m 44 42,o 45 (ia 4 40 42),o 46 (lg 4 45),o 11 (.alloc [.int .u8 (0),iz,iz,iz]),m 10 44,s 4 11 (.t 46)] (g [o 48 (lg 4 11),o 49 (cg qs [48]),m 47 49,o 50 (ex 47 0),o 51 (ex 47 1),o 52 (ex 47 2),m 12 50,m 13 51,m 14 52] (q (g [m 53 14,o 54 (bi .neq 53 0)] (c 54 (g [m 55 14,W 6 kn,m 7 55] r) k)) (q (.draw [o 56 (ld 1 9),m 57 10,m 58 13,o 59 (cg ZM [58]),o 60 (ia 1 56 57),s 1 60 (.t 59)]) (q (.draw [m 61 12,o 62 (cg ZM [61]),w 63 (ld 1 9),m 64 10,o 65 (ia 1 63 64),w 66 (ld 1 65),o 67 (b .or 62 66),m 68 2,o 69 (b .shr 67 68),o 70 (.bin .neq (.t 69) (.c (.int .u64 (0))))]) (c 70 (g [W 6 kn,V 7 16] r) k))))))) (p [o 71 (bi .add 42 1),m 42 71]))))))) (q (.draw [o 15 (.alloc [.nils]),o 16 (.alloc [.nils]),m 72 0,o 73 (le 72),o 74 (.make 1 8 [.int .u64 (0)] (.t 73) (.t 73)),m 75 0,o 76 (le 75),o 77 (.make 1 1 [.bool false] (.t 76) (.t 76)),s 1 15 (.t 74),s 1 16 (.t 77)]) (g [m 78 0,o 79 (.mkfn (.func Wm) [] [(.t 4),(.t 16),(.t 15),(.t 9)]),o 80 (cg jr [78,79])] (g [o 81 (ld 1 15),o 82 (ld 1 15),o 83 (le 82),o 84 (bi .sub 83 1),o 85 (ia 1 81 84),s 1 85 (.c (.int .u64 (0)))] (g [o 86 (ld 1 15),m 6 86,V 7 0] r)))))))))⟩
def Tt:List (List Nat):=[[0,2,4,9,40,41,42],[777777,654321]]
def z0y:AFunc:=⟨54,[.tmp 2,.tmp 3,.tmp 4],(g [o 1 (bx 4 0),W 2 kn,W 3 kn,V 4 0] (q (g [o 10 (lg 4 1),o 11 (cg vL [10]),m 5 11] (g [m 12 5,o 13 (bi .neq 12 0)] (c 13 (g [m 14 5,W 2 kn,W 3 kn,m 4 14] r) k))) (g [o 16 (fa 0 1),o 17 (ld 1 16),o 18 (cg qr [17]),m 15 18,o 19 (ex 15 0),o 20 (ex 15 1),o 6 (.alloc [iz,iz,.bool false,.bool false,iz,iz,.bool false,.bool false,iz,iz,.bool false,.bool false]),s 12 6 (.t 19),m 7 20] (q (g [o 21 (lg 4 1),o 22 (cg vD [21]),V 23 0] (bl 0 (lo [2,3,6,22,23] (g [o 24 (bi .lss 23 3)] (q (c 24 k (e 0)) (q (bl 1 (g [m 25 23,o 26 (.indexA 3 1 false (.t 22) (.t 23)),m 8 25,m 9 26] (q (g [m 27 8,o 28 (.iaddrA 3 4 (.t 6) (.t 27)),o 29 (fa 2 28),o 30 (ld 1 29),m 31 30,y 32 31 (mt 9),y 33 31 (bi .geq 32 0),o 34 (pf 31 33)] (c 34 (p [m 35 2,m 36 9,o 37 (li 1 [36]),o 38 (ap 1 8 35 37),m 2 38]) k)) (g [m 39 8,o 40 (.iaddrA 3 4 (.t 6) (.t 39)),o 41 (fa 3 40),o 42 (ld 1 41),m 43 42,y 44 43 (mt 9),y 45 43 (bi .geq 44 0),o 46 (pf 43 45)] (c 46 (p [m 47 3,m 48 9,o 49 (li 1 [48]),o 50 (ap 1 8 47 49),m 3 50]) k))))) (p [o 51 (bi .add 23 1),m 23 51]))))))) (g [m 52 2,m 53 3,m 2 52,m 3 53,V 4 0] r)))))⟩
def QI:List (List Nat):=[[2,3,6,22,23]]
def Vl:AFunc:=⟨43,[.tmp 2,.tmp 3],(g [W 2 kn,V 3 0] (q (g [m 7 0,o 8 (le 7),o 9 (cg uu [8]),m 4 9] (g [m 10 4,o 11 (bi .neq 10 0)] (c 11 (g [m 12 4,W 2 kn,m 3 12] r) k))) (g [W 5 kn] (q (g [m 13 0,o 14 (le 13),V 15 0] (bl 0 (lo [0,5,14,15] (g [o 16 (b .lss 15 14)] (q (c 16 k (e 0)) (q (bl 1 (g [m 17 15,m 6 17] (q (q (.draw [m 18 6,o 19 (bi .gtr 18 0),m 20 19,y 21 20 (mt 0),y 22 20 (mt 6),y 23 20 (ia 1 21 22),y 24 20 (ld 1 23),y 25 20 (mt 0),y 26 20 (mt 6),y 27 20 (bi .sub 26 1),y 28 20 (ia 1 25 27),y 29 20 (ld 1 28),y 30 20 (b .eql 24 29),o 31 (pf 20 30)]) (c 31 (e 1) k)) (p [m 32 5,m 33 6,m 34 0,m 35 6,o 36 (ia 1 34 35),o 37 (ld 1 36),o 38 (.build [iz,.int .u64 (0)] [(0,1,(.t 33)),(1,1,(.t 37))]),o 39 (li 2 [38]),o 40 (ap 2 16 32 39),m 5 40])))) (p [o 41 (bi .add 15 1),m 15 41]))))))) (g [m 42 5,m 2 42,V 3 0] r)))))⟩
def WE:List (List Nat):=[[0,5,14,15],[777777,654321]]
def Vr:AFunc:=⟨46,[.cell 8 false 1,.cell 9 false 1],(g [o 4 (bx 2 0),o 6 (bx 1 2),o 7 (bx 1 3),o 8 (.alloc [.nils]),o 9 (.alloc [.bool false])] (q (g [o 12 (lg 2 4),m 13 1,o 14 (cg Zh [12,13])] (bl 0 (.rangeF (.t 14) [15] (p [o 10 (.alloc [.int .u64 (0),.nils]),s 2 10 (.t 15)]) (bl 1 (q (g [o 16 (ld 1 6),o 17 (fa 0 10),o 18 (ld 1 17),o 19 (b .lss 16 18),m 20 19,z 21 20 (ld 1 6),z 22 20 (fa 0 10),z 23 20 (ld 1 22),z 24 20 (b .sub 21 23),z 25 20 (fa 1 10),z 26 20 (ld 1 25),z 27 20 (le 26),z 28 20 (.conv .u64 (.t 27)),z 29 20 (b .gtr 24 28),o 30 (pt 20 29)] (c 30 (e 1) k)) (g [o 31 (fa 1 10),o 32 (ld 1 31),o 33 (ld 1 6),o 34 (fa 0 10),o 35 (ld 1 34),o 36 (b .sub 33 35),o 37 (.slice 1 (.t 32) (some (.t 36)) none none),m 11 37] (g [m 38 11,o 39 (le 38),o 40 (ld 1 7),o 41 (b .geq 39 40)] (c 41 (g [m 42 11,o 43 (ld 1 7),o 44 (.slice 1 (.t 42) none (some (.t 43)) none),o 45 (cg Ui [44]),s 1 8 (.t 45),s 1 9 kt] r) k)))))))) (g [s 1 8 kn,s 1 9 kf] r)))⟩
def WK:List (List Nat):=[]
def Vy:AFunc:=⟨21,[.tmp 4],(g [V 4 0] (q (g [m 6 0,o 7 (cg xB [6]),m 5 7] (g [m 8 5,o 9 (bi .neq 8 0)] (c 9 (g [m 10 5,m 4 10] r) k))) (q (g [m 11 1,o 12 (cg qn [11]),o 13 (bi .lss 12 0),m 14 13,z 15 14 (mt 1),z 16 14 (cg qo [15]),z 17 14 (mt 0),z 18 14 (le 17),z 19 14 (b .geq 16 18),o 20 (pt 14 19)] (c 20 (g [V 4 2] r) k)) (g [V 4 0] r))))⟩
def WR:List (List Nat):=[]
def Ya:AFunc:=⟨59,[.tmp 6],(g [W 6 kn] (g [m 12 0,o 13 (le 12),o 14 (.make 1 1 [.bool false] (.t 13) (.t 13)),m 7 14] (g [m 15 7,m 16 1,o 17 (ia 1 15 16),s 1 17 kt] (q (g [m 18 1,o 19 (.ext (.litB 1 [(.t 18)])),m 8 19] (bl 0 (lo [0,2,7,8] (q (g [m 20 8,o 21 (le 20),o 22 (bi .gtr 21 0)] (c 22 k (e 0))) (bl 1 (g [m 23 8,m 24 8,o 25 (le 24),o 26 (bi .sub 25 1),o 27 (ia 1 23 26),o 28 (ld 1 27),m 9 28] (g [m 29 8,m 30 8,o 31 (le 30),o 32 (bi .sub 31 1),o 33 (.slice 1 (.t 29) none (some (.t 32)) none),m 8 33] (g [m 34 0,m 35 9,o 36 (ia 4 34 35),o 37 (lg 4 36),m 38 2,o 39 (cg U5 [37,38]),o 40 (le 39),V 41 0] (bl 2 (lo [0,2,7,8,39,40,41] (g [o 42 (b .lss 41 40)] (q (c 42 k (e 2)) (q (bl 3 (g [o 43 (ia 1 39 41),o 44 (ld 1 43),m 11 44] (g [m 45 7,m 46 11,o 47 (ia 1 45 46),o 48 (ld 1 47),o 49 (.un .not (.t 48))] (c 49 (p [m 50 7,m 51 11,m 52 8,m 53 11,o 54 (li 1 [53]),o 55 (ap 1 8 52 54),o 56 (ia 1 50 51),s 1 56 kt,m 8 55]) k)))) (p [o 57 (bi .add 41 1),m 41 57])))))))))))))) (g [m 58 7,m 6 58] r)))))⟩
def ZY:List (List Nat):=[[0,2,7,8],[0,2,7,8,39,40,41],[777777,19]]
def y9:AFunc:=⟨19,[.tmp 4],(g [V 4 0] (q (g [m 6 0,o 7 (le 6),V 8 0] (bl 0 (lo [0,1,7,8] (g [o 9 (b .lss 8 7)] (q (c 9 k (e 0)) (q (bl 1 (g [m 10 8,m 5 10] (g [m 11 1,m 12 0,m 13 5,o 14 (ia 2 12 13),o 15 (lg 2 14),o 16 (.call (.t 11) [(.t 15)])] (c 16 (g [m 17 5,m 4 17] r) k)))) (p [o 18 (bi .add 8 1),m 8 18]))))))) (g [V 4 (-1)] r)))⟩
def y4:List (List Nat):=[[0,1,7,8]]
def XT:AFunc:=⟨14,[.tmp 2],(g [W 2 kf] (g [m 3 0,o 4 (.bin .geq (.t 3) (.c (.int .u64 (8)))),m 5 4,y 6 5 (mt 0),y 7 5 (.bin .leq (.t 6) (.c (.int .u64 (1099511627776)))),o 8 (pf 5 7),m 9 8,y 10 9 (mt 0),y 11 9 (.bin .rem (.t 10) (.c (.int .u64 (8)))),y 12 9 (.bin .eql (.t 11) (.c (.int .u64 (0)))),o 13 (pf 9 12),m 2 13] r))⟩
def YJ:List (List Nat):=[]
def Zb:AFunc:=⟨77,[.tmp 2],(g [W 2 kn] (g [m 7 0,o 8 (le 7),o 9 (.make 2 16 [iz,iz] (.t 8) (.t 8)),m 3 9] (q (g [m 10 0,o 11 (le 10),V 12 0] (bl 0 (lo [3,10,11,12] (g [o 13 (b .lss 12 11)] (q (c 13 k (e 0)) (q (bl 1 (g [m 14 12,o 15 (ia 4 10 12),o 16 (lg 4 15),o 5 (.alloc [.int .u8 (0),iz,iz,.nils]),m 4 14,s 4 5 (.t 16)] (g [o 17 (fa 0 5),o 18 (ld 1 17)] (bl 2 (g [o 20 (bu .eql 18 1),m 19 20] (c 19 (p [m 21 3,m 22 4,o 23 (.build [iz,iz] [(0,1,(ki 1)),(1,1,(ki 1))]),o 24 (ia 2 21 22),s 2 24 (.t 23)]) (q (g [o 26 (bu .eql 18 2),m 25 26] (c 25 k (p [o 27 (bu .eql 18 4),m 25 27]))) (c 25 (p [m 28 3,m 29 4,o 30 (.build [iz,iz] [(0,1,(ki 8)),(1,1,(ki 8))]),o 31 (ia 2 28 29),s 2 31 (.t 30)]) (g [o 33 (bu .eql 18 3),m 32 33] (c 32 (p [m 34 3,m 35 4,o 36 (.build [iz,iz] [(0,1,(ki 16)),(1,1,(ki 8))]),o 37 (ia 2 34 35),s 2 37 (.t 36)]) (g [o 39 (bu .eql 18 7),m 38 39] (c 38 (p [m 40 3,m 41 4,o 42 (.build [iz,iz] [(0,1,(ki 24)),(1,1,(ki 8))]),o 43 (ia 2 40 41),s 2 43 (.t 42)]) (g [o 45 (bu .eql 18 6),m 44 45] (c 44 (g [m 46 3,o 47 (fa 1 5),o 48 (ld 1 47),o 49 (ia 2 46 48),o 50 (lg 2 49),o 6 (.alloc [iz,iz]),s 2 6 (.t 50)] (p [m 51 3,m 52 4,o 53 (fa 2 5),o 54 (ld 1 53),o 55 (fa 0 6),o 56 (ld 1 55),o 57 (b .mul 54 56),o 58 (.mn (ki 1048576) (.t 57)),o 59 (fa 1 6),o 60 (ld 1 59),o 61 (.build [iz,iz] [(0,1,(.t 58)),(1,1,(.t 60))]),o 62 (ia 2 51 52),s 2 62 (.t 61)])) (g [o 64 (bu .eql 18 5),m 63 64] (c 63 (p [m 66 3,m 67 4,m 68 3,o 69 (fa 3 5),o 70 (ld 1 69),o 71 (cg kE [68,70]),m 65 71,o 72 (ex 65 0),o 73 (ex 65 1),o 74 (ia 2 66 67),s 2 74 (.t 73)]) k)))))))))))))))) (p [o 75 (bi .add 12 1),m 12 75]))))))) (g [m 76 3,m 2 76] r))))⟩
def kR:List (List Nat):=[[3,10,11,12]]
def qU:AFunc:=⟨36,[.tmp 6,.tmp 7],(g [o 3 (bx 2 0),W 6 kn,V 7 0] (g [o 11 (fa 1 3),o 12 (ld 1 11),m 13 1,m 14 2,o 15 (.mx (.t 14) (ki 1)),o 16 (cg u6 [12,13,15]),m 10 16,o 17 (ex 10 0),o 18 (ex 10 1),m 8 17,m 9 18] (q (g [m 19 9,o 20 (bi .neq 19 0),m 21 20,z 22 21 (mt 1),z 23 21 (.bin .rem (.t 22) (.c (.int .u64 (8)))),z 24 21 (.bin .neq (.t 23) (.c (.int .u64 (0)))),o 25 (pt 21 24)] (c 25 (g [W 6 kn,V 7 16] r) k)) (g [o 26 (fa 1 3),o 27 (ld 1 26),m 28 8,o 29 (ia 2 27 28),o 30 (lg 2 29),m 31 1,m 32 2,o 33 (cg qq [30,31,32]),o 34 (ex 33 0),o 35 (ex 33 1),m 6 34,m 7 35] r))))⟩
def qK:List (List Nat):=[]
def TN:AFunc:=⟨16,[.tmp 4],(g [V 4 0] (g [m 9 0,m 10 1,o 11 (cg y2 [9,10]),m 8 11,o 12 (ex 8 0),o 13 (ex 8 1),o 14 (ex 8 2),m 5 12,m 6 13,m 7 14] (g [m 15 5,m 4 15] r)))⟩
def Te:List (List Nat):=[]
def Vp:AFunc:=⟨7,[],(p [o 4 (.sliceA 3 4 (.t 1) none none),m 5 0,o 6 (.ext (.copy 4 (.t 4) (.t 5))),s 1 2 (.t 6)])⟩
def WI:List (List Nat):=[]
def z0u:AFunc:=⟨2,[.cell 0 true 4],(g [o 0 (.alloc [iz,iz,.bool false,.bool false])] (g [o 1 (.build [iz,iz,.bool false,.bool false] [(0,1,(ki 0)),(1,1,(ki 15)),(2,1,kf),(3,1,kt)]),s 4 0 (.t 1)] r))⟩
def QE:List (List Nat):=[]
def z0v:AFunc:=⟨2,[.cell 0 true 4],(g [o 0 (.alloc [iz,iz,.bool false,.bool false])] (g [o 1 (.build [iz,iz,.bool false,.bool false] [(0,1,(ki (-9223372036854775808))),(1,1,(ki 9223372036854775807)),(2,1,kf),(3,1,kf)]),s 4 0 (.t 1)] r))⟩
def QF:List (List Nat):=[]
def z0x:AFunc:=⟨6,[.cell 2 true 4],(g [o 2 (.alloc [iz,iz,.bool false,.bool false])] (g [m 3 0,o 4 (bi .sub 3 1),o 5 (.build [iz,iz,.bool false,.bool false] [(0,1,(ki 0)),(1,1,(.t 4)),(2,1,kf),(3,1,kf)]),s 4 2 (.t 5)] r))⟩
def QH:List (List Nat):=[]
def z1K:AFunc:=⟨2,[.cell 0 true 4],(g [o 0 (.alloc [iz,iz,.bool false,.bool false])] (g [o 1 (.build [iz,iz,.bool false,.bool false] [(0,1,(ki 0)),(1,1,(ki 15)),(2,1,kt),(3,1,kf)]),s 4 0 (.t 1)] r))⟩
def z17:List (List Nat):=[]
def XW:AFunc:=⟨10,[.cell 2 true 3],(g [o 1 (bx 4 0),o 2 (.alloc [iz,iz,iz])] (g [o 3 (fa 1 1),o 4 (ld 1 3),o 5 (fa 2 1),o 6 (ld 1 5),o 7 (fa 3 1),o 8 (ld 1 7),o 9 (.build [iz,iz,iz] [(0,1,(.t 4)),(1,1,(.t 6)),(2,1,(.t 8))]),s 3 2 (.t 9)] r))⟩
def YM:List (List Nat):=[]
def Z8:AFunc:=⟨9,[.tmp 2],(g [V 2 0] (q (g [m 3 0,o 4 (bi .lss 3 1),m 5 4,z 6 5 (mt 0),z 7 5 (bi .gtr 6 200),o 8 (pt 5 7)] (c 8 (g [V 2 2] r) k)) (g [V 2 0] r)))⟩
def kM:List (List Nat):=[]
def Vk:AFunc:=⟨55,[.tmp 4],(g [W 4 kf] (q (g [m 8 0,o 9 (le 8),o 10 (bi .eql 9 0),m 11 10,z 12 11 (mt 0),z 13 11 (.iaddr 2 (.t 12) (ki 0)),z 14 11 (fa 0 13),z 15 11 (ld 1 14),z 16 11 (bi .neq 15 0),o 17 (pt 11 16),m 18 17,z 19 18 (mt 0),z 20 18 (mt 0),z 21 18 (le 20),z 22 18 (bi .sub 21 1),z 23 18 (ia 2 19 22),z 24 18 (fa 0 23),z 25 18 (ld 1 24),z 26 18 (mt 1),z 27 18 (b .geq 25 26),o 28 (pt 18 27)] (c 28 (g [W 4 kf] r) k)) (g [m 29 0,o 30 (.iaddr 2 (.t 29) (ki 0)),o 31 (lg 2 30),o 5 (.alloc [iz,.int .u64 (0)]),s 2 5 (.t 31)] (q (g [m 32 0,o 33 (.slice 2 (.t 32) (some (ki 1)) none none),o 34 (le 33),V 35 0] (bl 0 (lo [5,33,34,35] (g [o 36 (b .lss 35 34)] (q (c 36 k (e 0)) (q (bl 1 (g [o 37 (ia 2 33 35),o 38 (lg 2 37),o 7 (.alloc [iz,.int .u64 (0)]),s 2 7 (.t 38)] (q (g [o 39 (fa 0 7),o 40 (ld 1 39),o 41 (fa 0 5),o 42 (ld 1 41),o 43 (b .leq 40 42),m 44 43,z 45 44 (lg 2 7),z 46 44 (fa 0 7),z 47 44 (ld 1 46),z 48 44 (fa 1 5),z 49 44 (ld 1 48),z 50 44 (.build [iz,.int .u64 (0)] [(0,1,(.t 47)),(1,1,(.t 49))]),z 51 44 (.ext (.eqA false 2 [(0,1),(1,1)] (.t 45) (.t 50))),o 52 (pt 44 51)] (c 52 (g [W 4 kf] r) k)) (p [o 53 (lg 2 7),s 2 5 (.t 53)])))) (p [o 54 (bi .add 35 1),m 35 54]))))))) (g [W 4 kt] r)))))⟩
def WD:List (List Nat):=[[5,33,34,35]]
def W3:AFunc:=⟨12,[.tmp 4],(g [W 4 kf] (g [m 5 0,o 6 (bi .geq 5 0),m 7 6,y 8 7 (mt 0),y 9 7 (mt 1),y 10 7 (b .lss 8 9),o 11 (pf 7 10),m 4 11] r))⟩
def YV:List (List Nat):=[]
def TS:AFunc:=⟨6,[.tmp 2],(g [W 2 kf] (g [m 3 0,o 4 (cf zP [(.t 3),(.c (.fn (.func Wh) [] []))]),o 5 (.un .not (.t 4)),m 2 5] r))⟩
def Tk:List (List Nat):=[]
def zW:AFunc:=⟨9,[.tmp 4],(g [W 4 kf] (g [m 5 0,m 6 1,o 7 (cg ym [5,6]),o 8 (bi .geq 7 0),m 4 8] r))⟩
def zV:List (List Nat):=[]
def Yb:AFunc:=⟨9,[.tmp 3],(g [o 2 (bx 2 0),W 3 kf] (g [o 4 (fa 0 2),o 5 (ld 1 4),o 6 (fa 0 1),o 7 (ld 1 6),o 8 (b .eql 5 7),m 3 8] r))⟩
def ZZ:List (List Nat):=[]
def TR:AFunc:=⟨68,[.tmp 4,.cell 5 true 2],(g [W 4 kn,o 5 (.alloc [iz,iz])] (g [m 11 1,o 12 (le 11),o 13 (.make 1 8 [iz] (.t 12) (.t 12)),o 14 (.build [iz,iz] [(0,1,(ki 0)),(1,1,(ki 1))]),o 7 (.alloc [iz,iz]),m 6 13,s 2 7 (.t 14)] (q (g [m 15 1,o 16 (le 15),V 17 0] (bl 0 (lo [0,5,6,7,15,16,17] (g [o 18 (b .lss 17 16)] (q (c 18 k (e 0)) (q (bl 1 (g [m 19 17,o 20 (ia 2 15 17),o 21 (lg 2 20),o 9 (.alloc [.str [],iz]),m 8 19,s 2 9 (.t 21)] (g [m 22 0,o 23 (fa 1 9),o 24 (ld 1 23),o 25 (ia 2 22 24),o 26 (lg 2 25),o 10 (.alloc [iz,iz]),s 2 10 (.t 26)] (g [m 27 6,m 28 8,o 29 (fa 0 7),o 30 (ld 1 29),o 31 (fa 1 10),o 32 (ld 1 31),o 33 (b .add 30 32),o 34 (bi .sub 33 1),o 35 (fa 1 10),o 36 (ld 1 35),o 37 (bi .sub 36 1),o 38 (b .andNot 34 37),o 39 (ia 1 27 28),s 1 39 (.t 38)] (.draw [m 40 6,m 41 8,o 42 (ia 1 40 41),o 43 (ld 1 42),o 44 (fa 0 10),o 45 (ld 1 44),o 46 (b .add 43 45),o 47 (.mn (ki 1048576) (.t 46)),o 48 (fa 1 7),o 49 (ld 1 48),o 50 (fa 1 10),o 51 (ld 1 50),o 52 (.mx (.t 49) (.t 51)),o 53 (.build [iz,iz] [(0,1,(.t 47)),(1,1,(.t 52))]),s 2 7 (.t 53)]))))) (p [o 54 (bi .add 17 1),m 17 54]))))))) (g [o 55 (fa 0 7),o 56 (ld 1 55),o 57 (fa 1 7),o 58 (ld 1 57),o 59 (b .add 56 58),o 60 (bi .sub 59 1),o 61 (fa 1 7),o 62 (ld 1 61),o 63 (bi .sub 62 1),o 64 (b .andNot 60 63),o 65 (fa 0 7),s 1 65 (.t 64)] (q (.draw [m 66 6,o 67 (lg 2 7),m 4 66,s 2 5 (.t 67)]) r)))))⟩
def Tj:List (List Nat):=[[0,5,6,7,15,16,17],[777777,654321]]
def tz:AFunc:=⟨25,[],(g [m 6 0,m 7 1,o 8 (le 7),o 9 (cg z5 [6,8])] (g [m 10 1,o 11 (le 10),V 12 0] (bl 0 (lo [0,10,11,12] (g [o 13 (b .lss 12 11)] (q (c 13 k (e 0)) (q (bl 1 (g [o 14 (ia 2 10 12),o 15 (lg 2 14),o 5 (.alloc [.str [],iz]),s 2 5 (.t 15)] (g [m 16 0,o 17 (fa 0 5),o 18 (ld 1 17),o 19 (cg yy [16,18])] (p [m 20 0,o 21 (fa 1 5),o 22 (ld 1 21),o 23 (cg z5 [20,22])])))) (p [o 24 (bi .add 12 1),m 12 24]))))))))⟩
def tj:List (List Nat):=[[0,10,11,12]]
def TQ:AFunc:=⟨51,[.tmp 2,.tmp 3],(g [o 1 (bx 4 0),W 2 kn,V 3 0] (q (g [o 10 (lg 4 1),o 11 (cg vL [10]),m 4 11] (g [m 12 4,o 13 (bi .neq 12 0)] (c 13 (g [m 14 4,W 2 kn,m 3 14] r) k))) (g [o 16 (fa 0 1),o 17 (ld 1 16),o 18 (cg qr [17]),m 15 18,o 19 (ex 15 0),o 20 (ex 15 1),o 5 (.alloc [iz,iz,.bool false,.bool false,iz,iz,.bool false,.bool false,iz,iz,.bool false,.bool false]),s 12 5 (.t 19),m 6 20] (g [o 21 (fa 0 1),o 22 (ld 1 21),o 23 (li 1 [22]),m 7 23] (q (g [o 24 (lg 4 1),o 25 (cg vD [24]),V 26 0] (bl 0 (lo [5,6,7,25,26] (g [o 27 (bi .lss 26 3)] (q (c 27 k (e 0)) (q (bl 1 (g [m 28 26,o 29 (.indexA 3 1 false (.t 25) (.t 26)),m 8 28,m 9 29] (bl 2 (g [m 36 8,m 37 6,o 38 (b .geq 36 37),m 35 38] (c 35 k (g [m 40 8,o 41 (.iaddrA 3 4 (.t 5) (.t 40)),o 42 (fa 0 41),o 43 (ld 1 42),o 44 (bi .lss 43 0),m 39 44] (c 39 (p [m 45 7,m 46 9,o 47 (cg xA [46]),o 48 (ap 1 1 45 47),m 7 48]) (p [m 30 7,m 31 9,o 32 (.conv .u64 (.t 31)),o 33 (cg zu [32]),o 34 (ap 1 1 30 33),m 7 34])))))))) (p [o 49 (bi .add 26 1),m 26 49]))))))) (g [m 50 7,m 2 50,V 3 0] r))))))⟩
def Th:List (List Nat):=[[5,6,7,25,26]]
def Y5:AFunc:=⟨44,[.tmp 4,.tmp 5],(g [W 4 kn,V 5 0] (q (g [m 11 0,m 12 1,o 13 (cg xd [11,12]),m 6 13] (g [m 14 6,o 15 (bi .neq 14 0)] (c 15 (g [m 16 6,W 4 kn,m 5 16] r) k))) (g [m 17 0,o 18 (le 17),o 19 (.conv .u64 (.t 18)),o 20 (cg zu [19]),m 7 20] (g [V 8 0] (q (g [m 21 0,o 22 (le 21),V 23 0] (bl 0 (lo [7,8,21,22,23] (g [o 24 (b .lss 23 22)] (q (c 24 k (e 0)) (q (bl 1 (g [o 25 (ia 2 21 23),o 26 (lg 2 25),o 10 (.alloc [iz,.int .u64 (0)]),s 2 10 (.t 26)] (g [m 27 7,o 28 (fa 0 10),o 29 (ld 1 28),m 30 8,o 31 (b .sub 29 30),o 32 (.conv .u64 (.t 31)),o 33 (cg zu [32]),o 34 (ap 1 1 27 33),m 7 34] (g [m 35 7,o 36 (fa 1 10),o 37 (ld 1 36),o 38 (cg zu [37]),o 39 (ap 1 1 35 38),m 7 39] (p [o 40 (fa 0 10),o 41 (ld 1 40),m 8 41]))))) (p [o 42 (bi .add 23 1),m 23 42]))))))) (g [m 43 7,m 4 43,V 5 0] r))))))⟩
def ZR:List (List Nat):=[[7,8,21,22,23]]
def Vf:AFunc:=⟨7,[],(p [o 3 (ld 1 1),m 4 0,o 5 (li 1 [4]),o 6 (ap 1 1 3 5),s 1 1 (.t 6)])⟩
def Wy:List (List Nat):=[]
def Q1:AFunc:=⟨53,[.tmp 2],(g [V 2 0] (g [m 6 0,o 7 (le 6),m 3 7] (q (g [m 8 3,o 9 (bi .eql 8 0),m 10 9,z 11 10 (mt 3),z 12 10 (bi .gtr 11 200),o 13 (pt 10 12),m 14 13,z 15 14 (mt 0),z 16 14 (mt 3),z 17 14 (bi .sub 16 1),z 18 14 (ia 4 15 17),z 19 14 (lg 4 18),z 20 14 (.build [.int .u8 (0),iz,iz,iz] [(0,1,(ku 34)),(1,1,(ki (-1)))]),z 21 14 (.ext (.eqA true 4 [(0,1),(1,1),(2,1),(3,1)] (.t 19) (.t 20))),o 22 (pt 14 21)] (c 22 (g [V 2 8] r) k)) (q (g [m 23 0,o 24 (le 23),V 25 0] (bl 0 (lo [3,23,24,25] (g [o 26 (b .lss 25 24)] (q (c 26 k (e 0)) (q (bl 1 (g [o 27 (ia 4 23 25),o 28 (lg 4 27),o 5 (.alloc [.int .u8 (0),iz,iz,iz]),s 4 5 (.t 28)] (q (g [o 29 (lg 4 5),o 30 (cg vL [29]),o 31 (bi .neq 30 0)] (c 31 (g [V 2 8] r) k)) (g [o 32 (fa 0 5),o 33 (ld 1 32),o 34 (bu .eql 33 22),m 35 34,y 36 35 (fa 1 5),y 37 35 (ld 1 36),y 38 35 (mt 3),y 39 35 (b .geq 37 38),o 40 (pf 35 39),m 41 40,z 42 41 (fa 0 5),z 43 41 (ld 1 42),z 44 41 (bu .eql 43 23),z 45 41 (mt 44),y 46 45 (fa 2 5),y 47 45 (ld 1 46),y 48 45 (mt 3),y 49 45 (b .geq 47 48),z 50 41 (pf 45 49),o 51 (pt 41 50)] (c 51 (g [V 2 8] r) k))))) (p [o 52 (bi .add 25 1),m 25 52]))))))) (g [V 2 0] r)))))⟩
def Tu:List (List Nat):=[[3,23,24,25]]
def VE:AFunc:=⟨42,[],(g [m 8 1,o 9 (.call (.t 8) [(ki 0),(ki (-1))])] (g [o 10 (.ext (.litB 1 [(ki 0)])),m 4 10] (bl 0 (lo [0,1,4] (q (g [m 11 4,o 12 (le 11),o 13 (bi .gtr 12 0)] (c 13 k (e 0))) (bl 1 (g [m 14 4,m 15 4,o 16 (le 15),o 17 (bi .sub 16 1),o 18 (ia 1 14 17),o 19 (ld 1 18),m 5 19] (g [m 20 4,m 21 4,o 22 (le 21),o 23 (bi .sub 22 1),o 24 (.slice 1 (.t 20) none (some (.t 23)) none),m 4 24] (g [m 25 0,m 26 5,o 27 (cg js [25,26]),o 28 (le 27),V 29 0] (bl 2 (lo [0,1,4,5,27,28,29] (g [o 30 (b .lss 29 28)] (q (c 30 k (e 2)) (q (bl 3 (g [o 31 (ia 1 27 29),o 32 (ld 1 31),m 7 32] (g [m 33 1,m 34 7,m 35 5,o 36 (.call (.t 33) [(.t 34),(.t 35)])] (c 36 (p [m 37 4,m 38 7,o 39 (li 1 [38]),o 40 (ap 1 8 37 39),m 4 40]) k)))) (p [o 41 (bi .add 29 1),m 29 41])))))))))))))))⟩
def WX:List (List Nat):=[[0,1,4],[0,1,4,5,27,28,29],[777777,10]]
def Zf:AFunc:=⟨16,[.tmp 5],(g [W 5 kf] (g [o 7 (ld 1 2),m 8 0,o 9 (ia 1 7 8),o 10 (ld 1 9),m 6 10] (g [o 11 (ld 1 2),m 12 0,o 13 (ia 1 11 12),s 1 13 kt] (g [m 14 6,o 15 (.un .not (.t 14)),m 5 15] r))))⟩
def kV:List (List Nat):=[]
def vX:AFunc:=⟨13,[.tmp 4],(g [W 4 kf] (g [m 5 1,o 6 (bi .geq 5 0),m 7 6,y 8 7 (mt 1),y 9 7 (mt 0),y 10 7 (le 9),y 11 7 (b .lss 8 10),o 12 (pf 7 11),m 4 12] r))⟩
def vO:List (List Nat):=[]
def W9:AFunc:=⟨14,[.tmp 2],(g [o 1 (bx 4 0),V 2 0] (q (g [o 3 (fa 0 1),o 4 (ld 1 3)] (bl 0 (g [o 6 (bu .eql 4 25),m 5 6] (c 5 (g [o 7 (fa 2 1),o 8 (ld 1 7),m 2 8] r) (q (g [o 10 (bu .eql 4 26),m 9 10] (c 9 k (p [o 11 (bu .eql 4 27),m 9 11]))) (c 9 (g [o 12 (fa 1 1),o 13 (ld 1 12),m 2 13] r) k)))))) (g [V 2 (-1)] r)))⟩
def X1:List (List Nat):=[]
def tA:AFunc:=⟨13,[.tmp 4],(g [W 4 kf] (g [m 5 1,o 6 (bi .geq 5 0),m 7 6,y 8 7 (mt 1),y 9 7 (mt 0),y 10 7 (le 9),y 11 7 (b .lss 8 10),o 12 (pf 7 11),m 4 12] r))⟩
def tl:List (List Nat):=[]
def tC:AFunc:=⟨18,[.tmp 4],(g [o 2 (bx 10 0),V 4 0] (q (g [o 5 (fa 3 2),o 6 (fa 3 5),o 7 (ld 1 6),m 8 1,o 9 (cg zG [7,8]),o 10 (.un .not (.t 9))] (c 10 (g [V 4 (-1)] r) k)) (g [o 11 (fa 3 2),o 12 (fa 3 11),o 13 (ld 1 12),m 14 1,o 15 (ia 2 13 14),o 16 (fa 1 15),o 17 (ld 1 16),m 4 17] r)))⟩
def to:List (List Nat):=[]
def vZ:AFunc:=⟨8,[.tmp 3],(g [W 3 kf] (g [m 4 0,o 5 (.mkfn (.func vF) [] [(.t 1)]),o 6 (cg zP [4,5]),o 7 (.un .not (.t 6)),m 3 7] r))⟩
def vQ:List (List Nat):=[]
def xJ:AFunc:=⟨9,[.tmp 4],(g [W 4 kf] (g [m 5 0,m 6 1,o 7 (cg vB [5,6]),o 8 (bi .geq 7 0),m 4 8] r))⟩
def xF:List (List Nat):=[]
def vz:AFunc:=⟨9,[.tmp 3],(g [W 3 kf] (g [o 4 (lg 10 1),m 5 0,o 6 (.lit 1 [(ku 2)]),o 7 (cg z7 [4,5,6]),o 8 (.un .not (.t 7)),m 3 8] r))⟩
def vl:List (List Nat):=[]
def qY:AFunc:=⟨20,[.tmp 6],(g [o 3 (bx 10 0),W 6 kf] (g [m 7 1,o 8 (bi .geq 7 0),m 9 8,y 10 9 (mt 2),y 11 9 (fa 0 3),y 12 9 (fa 0 11),y 13 9 (ld 1 12),y 14 9 (mt 1),y 15 9 (ia 4 13 14),y 16 9 (fa 0 15),y 17 9 (ld 1 16),y 18 9 (cg xM [10,17]),o 19 (pf 9 18),m 6 19] r))⟩
def qO:List (List Nat):=[]
def vY:AFunc:=⟨8,[.tmp 3],(g [W 3 kf] (g [o 4 (lg 10 1),m 5 0,o 6 (.lit 1 [(ku 1)]),o 7 (cg z7 [4,5,6]),m 3 7] r))⟩
def vP:List (List Nat):=[]
def ur:AFunc:=⟨39,[.tmp 8],(g [o 4 (bx 10 0),W 8 kf] (g [o 9 (lg 10 4),m 10 1,o 11 (.lit 1 [(ku 5)]),o 12 (cg z7 [9,10,11]),m 13 12,y 14 13 (fa 0 4),y 15 13 (fa 0 14),y 16 13 (ld 1 15),y 17 13 (mt 1),y 18 13 (ia 4 16 17),y 19 13 (fa 3 18),y 20 13 (ld 1 19),y 21 13 (mt 2),y 22 13 (cg zG [20,21]),o 23 (pf 13 22),m 24 23,y 25 24 (fa 0 4),y 26 24 (fa 0 25),y 27 24 (ld 1 26),y 28 24 (mt 1),y 29 24 (ia 4 27 28),y 30 24 (fa 3 29),y 31 24 (ld 1 30),y 32 24 (mt 2),y 33 24 (ia 2 31 32),y 34 24 (fa 1 33),y 35 24 (ld 1 34),y 36 24 (mt 3),y 37 24 (b .eql 35 36),o 38 (pf 24 37),m 8 38] r))⟩
def uh:List (List Nat):=[]
def tE:AFunc:=⟨24,[.tmp 8],(g [o 4 (bx 10 0),W 8 kf] (g [o 9 (lg 10 4),m 10 1,m 11 3,o 12 (cg z7 [9,10,11]),m 13 12,y 14 13 (fa 0 4),y 15 13 (fa 0 14),y 16 13 (ld 1 15),y 17 13 (mt 1),y 18 13 (ia 4 16 17),y 19 13 (fa 1 18),y 20 13 (ld 1 19),y 21 13 (mt 2),y 22 13 (b .eql 20 21),o 23 (pf 13 22),m 8 23] r))⟩
def tq:List (List Nat):=[]
def uT:AFunc:=⟨29,[.tmp 4],(g [o 2 (bx 10 0),o 3 (bx 7 1),W 4 kf] (g [o 6 (.mkfn (.func uc) [] [(.t 2)]),m 5 6] (g [o 7 (fa 2 3),o 8 (ld 1 7),o 9 (bi .lss 8 0),m 10 9,y 11 10 (fa 1 3),y 12 10 (ld 1 11),y 13 10 (bi .eql 12 0),y 14 10 (mt 13),z 15 14 (fa 1 3),z 16 14 (ld 1 15),z 17 14 (bi .eql 16 1),z 18 14 (mt 17),y 19 18 (mt 5),y 20 18 (fa 3 3),y 21 18 (ld 1 20),y 22 18 (.iaddr 2 (.t 21) (ki 0)),y 23 18 (fa 1 22),y 24 18 (ld 1 23),y 25 18 (.call (.t 19) [(.t 24)]),z 26 14 (pf 18 25),y 27 10 (pt 14 26),o 28 (pf 10 27),m 4 28] r)))⟩
def uE:List (List Nat):=[]
def tB:AFunc:=⟨77,[.tmp 6,.tmp 7],(g [o 3 (bx 10 0),o 4 (bx 4 1),W 6 kn,W 7 kf] (q (g [o 15 (fa 0 4),o 16 (ld 1 15),o 17 (bu .eql 16 24)] (c 17 (.draw [m 18 2,o 19 (cg tG [18]),w 20 (lg 10 3),o 21 (fa 1 4),w 22 (ld 1 21),o 23 (cg zy [20,22]),o 24 (li 1 [23]),o 25 (ap 1 8 19 24),m 2 25]) k)) (q (g [o 26 (lg 4 4),o 27 (cg qx [26]),m 8 27] (g [m 28 8,o 29 (bi .geq 28 0)] (c 29 (g [o 30 (fa 0 3),o 31 (fa 2 30),o 32 (ld 1 31),m 33 8,o 34 (ia 7 32 33),o 35 (lg 7 34),o 9 (.alloc [.str [],iz,iz,.nils,.nils,.nils,.nils]),s 7 9 (.t 35)] (g [m 36 2,o 37 (le 36),o 38 (fa 1 9),o 39 (ld 1 38),o 40 (b .sub 37 39),m 10 40] (q (g [m 41 10,o 42 (bi .lss 41 0)] (c 42 (g [W 6 kn,W 7 kf] r) k)) (q (g [m 43 2,m 44 10,o 45 (.slice 1 (.t 43) (some (.t 44)) none none),o 46 (le 45),V 47 0] (bl 0 (lo [2,3,9,10,45,46,47] (g [o 48 (b .lss 47 46)] (q (c 48 k (e 0)) (q (bl 1 (g [m 49 47,o 50 (ia 1 45 47),o 51 (ld 1 50),m 11 49,m 12 51] (g [o 52 (fa 3 9),o 53 (ld 1 52),m 54 11,o 55 (ia 2 53 54),o 56 (fa 1 55),o 57 (ld 1 56),m 58 12,o 59 (b .neq 57 58)] (c 59 (g [W 6 kn,W 7 kf] r) k)))) (p [o 60 (bi .add 47 1),m 47 60]))))))) (p [m 61 2,m 62 10,o 63 (.slice 1 (.t 61) none (some (.t 62)) none),m 2 63]))))) k))) (g [o 65 (lg 10 3),m 66 2,o 67 (cg xi [65,66]),m 64 67,o 68 (ex 64 0),o 69 (ex 64 1),m 13 68,m 14 69] (g [m 70 2,m 71 14,o 72 (bi .eql 71 0),m 73 72,y 74 73 (mt 13),y 75 73 (bi .leq 74 4096),o 76 (pf 73 75),m 6 70,m 7 76] r)))))⟩
def tn:List (List Nat):=[[2,3,9,10,45,46,47],[777777,654321]]
def z0C:AFunc:=⟨23,[.tmp 4,.tmp 5],(g [W 4 kn,V 5 0] (q (g [m 7 0,o 8 (cg uZ [7]),m 6 8] (g [m 9 6,o 10 (bi .neq 9 0)] (c 10 (g [m 11 6,W 4 kn,m 5 11] r) k))) (q (g [m 12 1,o 13 (bi .lss 12 0),m 14 13,z 15 14 (mt 1),z 16 14 (mt 0),z 17 14 (le 16),z 18 14 (b .geq 15 17),o 19 (pt 14 18)] (c 19 (g [W 4 kn,V 5 2] r) k)) (g [m 20 0,m 21 1,o 22 (cg js [20,21]),m 4 22,V 5 0] r))))⟩
def QM:List (List Nat):=[]
def uP:AFunc:=⟨26,[.tmp 4],(g [W 4 kf] (q (g [m 6 0,o 7 (le 6),m 8 1,o 9 (le 8),o 10 (b .neq 7 9)] (c 10 (g [W 4 kf] r) k)) (q (g [m 11 0,o 12 (le 11),V 13 0] (bl 0 (lo [0,1,12,13] (g [o 14 (b .lss 13 12)] (q (c 14 k (e 0)) (q (bl 1 (g [m 15 13,m 5 15] (q (.draw [m 16 0,m 17 5,o 18 (ia 1 16 17),o 19 (ld 1 18),m 20 1,m 21 5,o 22 (ia 1 20 21),o 23 (ld 1 22),o 24 (b .neq 19 23)]) (c 24 (g [W 4 kf] r) k)))) (p [o 25 (bi .add 13 1),m 13 25]))))))) (g [W 4 kt] r))))⟩
def uB:List (List Nat):=[[0,1,12,13],[777777,654321]]
def uU:AFunc:=⟨43,[.tmp 4,.tmp 5],(g [o 2 (bx 10 0),V 4 0,V 5 0] (g [V 6 0] (q (g [m 12 1,o 13 (le 12),V 14 0] (bl 0 (lo [2,6,12,13,14] (g [o 15 (b .lss 14 13)] (q (c 15 k (e 0)) (q (bl 1 (g [o 16 (ia 1 12 14),o 17 (ld 1 16),m 8 17] (g [o 19 (fa 0 2),o 20 (fa 0 19),o 21 (ld 1 20),m 22 8,o 23 (cg y2 [21,22]),m 18 23,o 24 (ex 18 0),o 25 (ex 18 1),o 26 (ex 18 2),m 9 24,m 10 25,m 11 26] (q (g [m 27 11,o 28 (bi .neq 27 0)] (c 28 (g [m 29 11,V 4 0,m 5 29] r) k)) (g [m 31 9,o 32 (cg qu [31]),m 30 32,o 33 (ex 30 0),o 34 (ex 30 1),m 9 33,m 11 34] (q (g [m 35 11,o 36 (bi .neq 35 0)] (c 36 (g [m 37 11,V 4 0,m 5 37] r) k)) (p [m 38 6,m 39 9,o 40 (b .add 38 39),m 6 40]))))))) (p [o 41 (bi .add 14 1),m 14 41]))))))) (g [m 42 6,m 4 42,V 5 0] r))))⟩
def uF:List (List Nat):=[[2,6,12,13,14]]
def z0B:AFunc:=⟨18,[.tmp 2],(g [o 2 (v (.c (.int .u64 (0))))] (g [o 3 (v (.c (.int .u64 (0))))] (q (g [m 6 0,o 7 (le 6),V 8 0] (bl 0 (lo [3,6,7,8] (g [o 9 (b .lss 8 7)] (q (c 9 k (e 0)) (q (bl 1 (g [o 10 (ia 1 6 8),o 11 (ld 1 10),m 5 11] (p [m 12 3,m 13 5,o 14 (.bin .shl (.c (.int .u64 (1))) (.t 13)),o 15 (b .or 12 14),m 3 15]))) (p [o 16 (bi .add 8 1),m 8 16]))))))) (g [m 17 3,m 2 17] r))))⟩
def QL:List (List Nat):=[[3,6,7,8]]
def W7:AFunc:=⟨60,[.tmp 8],(g [W 8 kf] (q (g [m 11 1,o 12 (bi .lss 11 0)] (c 12 (q (.draw [o 13 (ld 1 3),m 14 0,w 15 (.ext (.wload false 1 (.t 4))),m 16 0,w 17 (.ext (.wload false 1 (.t 2))),o 18 (.bin .shl (.c (.int .u64 (1))) (.t 17)),o 19 (.bin .sub (.t 18) (.c (.int .u64 (1)))),o 20 (ia 1 13 14),s 1 20 kt,o 21 (ia 1 15 16),⟨none,.ext (.lst 1 (.t 21) (.t 19)),none,false⟩]) (g [W 8 kt] r)) k)) (q (.draw [o 22 (ld 1 4),m 23 1,o 24 (ia 1 22 23),o 25 (ld 1 24),o 26 (ld 1 5),m 27 1,o 28 (ia 1 26 27),o 29 (ld 1 28),o 30 (b .or 25 29),m 9 30]) (q (g [o 31 (ld 1 3),m 32 0,o 33 (ia 1 31 32),o 34 (ld 1 33),o 35 (.un .not (.t 34))] (c 35 (q (.draw [o 36 (ld 1 3),m 37 0,w 38 (.ext (.wload false 1 (.t 4))),m 39 0,m 40 9,o 41 (ia 1 36 37),s 1 41 kt,o 42 (ia 1 38 39),⟨none,.ext (.lst 1 (.t 42) (.t 40)),none,false⟩]) (g [W 8 kt] r)) k)) (g [o 43 (ld 1 4),m 44 0,o 45 (ia 1 43 44),o 46 (ld 1 45),m 10 46] (g [o 47 (ld 1 4),m 48 0,o 49 (ia 1 47 48),o 50 (ld 1 49),m 51 9,o 52 (b .and 50 51),o 53 (ia 1 47 48),s 1 53 (.t 52)] (g [o 54 (ld 1 4),m 55 0,o 56 (ia 1 54 55),o 57 (ld 1 56),m 58 10,o 59 (b .neq 57 58),m 8 59] r)))))))⟩
def YZ:List (List Nat):=[[777777,654321]]
def Za:AFunc:=⟨6,[.tmp 4],(g [o 2 (bx 2 0),o 3 (bx 1 1),o 4 (v (.c (.nilfn)))] (g [o 5 (.mkfn (.func jP) [] [(.t 2),(.t 3)]),m 4 5] r))⟩
def kP:List (List Nat):=[]
def qi:AFunc:=⟨25,[.tmp 2],(g [V 2 0] (q (g [m 5 0,o 6 (le 5),o 7 (bi .lss 6 1)] (c 7 (p [o 8 (.ext .bad),⟨none,.ext .bad,none,false⟩]) k)) (g [m 9 0,o 10 (.iaddr 1 (.t 9) (ki 0)),o 11 (ld 1 10),m 3 11] (q (g [V 4 1] (bl 0 (lo [0,3,4] (q (g [m 12 4,m 13 0,o 14 (le 13),o 15 (b .lss 12 14)] (c 15 k (e 0))) (q (bl 1 (p [m 18 3,m 19 0,m 20 4,o 21 (ia 1 19 20),o 22 (ld 1 21),o 23 (.mn (.t 18) (.t 22)),m 3 23])) (p [m 16 4,o 17 (bi .add 16 1),m 4 17])))))) (g [m 24 3,m 2 24] r)))))⟩
def tQ:List (List Nat):=[[0,3,4]]
def qj:AFunc:=⟨25,[.tmp 2],(g [V 2 0] (q (g [m 5 0,o 6 (le 5),o 7 (bi .lss 6 1)] (c 7 (p [o 8 (.ext .bad),⟨none,.ext .bad,none,false⟩]) k)) (g [m 9 0,o 10 (.iaddr 1 (.t 9) (ki 0)),o 11 (ld 1 10),m 3 11] (q (g [V 4 1] (bl 0 (lo [0,3,4] (q (g [m 12 4,m 13 0,o 14 (le 13),o 15 (b .lss 12 14)] (c 15 k (e 0))) (q (bl 1 (p [m 18 3,m 19 0,m 20 4,o 21 (ia 1 19 20),o 22 (ld 1 21),o 23 (.mx (.t 18) (.t 22)),m 3 23])) (p [m 16 4,o 17 (bi .add 16 1),m 4 17])))))) (g [m 24 3,m 2 24] r)))))⟩
def tR:List (List Nat):=[[0,3,4]]
def Vx:AFunc:=⟨43,[.tmp 4],(g [o 2 (bx 4 0),W 4 kn] (g [W 5 kn] (q (g [o 8 (fa 0 2),o 9 (ld 1 8),o 10 (bu .eql 9 6),m 11 10,z 12 11 (mt 1),z 13 11 (mt 12),y 14 13 (fa 0 2),y 15 13 (ld 1 14),y 16 13 (bu .eql 15 4),y 17 13 (mt 16),z 18 17 (fa 0 2),z 19 17 (ld 1 18),z 20 17 (bu .eql 19 7),y 21 13 (pt 17 20),z 22 11 (pf 13 21),o 23 (pt 11 22)] (c 23 (p [m 24 5,o 25 (fa 1 2),o 26 (ld 1 25),o 27 (li 1 [26]),o 28 (ap 1 8 24 27),m 5 28]) k)) (q (g [o 29 (fa 3 2),o 30 (ld 1 29),o 31 (le 30),V 32 0] (bl 0 (lo [5,30,31,32] (g [o 33 (b .lss 32 31)] (q (c 33 k (e 0)) (q (bl 1 (g [o 34 (ia 2 30 32),o 35 (lg 2 34),o 7 (.alloc [.str [],iz]),s 2 7 (.t 35)] (p [m 36 5,o 37 (fa 1 7),o 38 (ld 1 37),o 39 (li 1 [38]),o 40 (ap 1 8 36 39),m 5 40]))) (p [o 41 (bi .add 32 1),m 32 41]))))))) (g [m 42 5,m 4 42] r)))))⟩
def WQ:List (List Nat):=[[5,30,31,32]]
def W1:AFunc:=⟨5,[.tmp 2],(g [W 2 kf] (g [m 3 0,o 4 (bi .neq 3 0),m 2 4] r))⟩
def YT:List (List Nat):=[]
def yi:AFunc:=⟨19,[.tmp 4],(g [V 4 0] (q (g [m 6 0,o 7 (le 6),V 8 0] (bl 0 (lo [0,1,7,8] (g [o 9 (b .lss 8 7)] (q (c 9 k (e 0)) (q (bl 1 (g [m 10 8,m 5 10] (g [m 11 1,m 12 0,m 13 5,o 14 (ia 2 12 13),o 15 (lg 2 14),o 16 (.call (.t 11) [(.t 15)])] (c 16 (g [m 17 5,m 4 17] r) k)))) (p [o 18 (bi .add 8 1),m 8 18]))))))) (g [V 4 (-1)] r)))⟩
def yd:List (List Nat):=[[0,1,7,8]]
def VF:AFunc:=⟨36,[.tmp 4],(g [W 4 kn] (q (g [m 7 0,m 8 1,o 9 (ia 4 7 8),o 10 (lg 4 9),o 5 (.alloc [.int .u8 (0),iz,iz,iz]),s 4 5 (.t 10)] (g [o 11 (fa 0 5),o 12 (ld 1 11)] (bl 0 (q (g [o 14 (bu .eql 12 34),m 13 14] (c 13 k (g [o 15 (bu .eql 12 28),m 13 15] (c 13 k (p [o 16 (bu .eql 12 30),m 13 16]))))) (c 13 (g [W 4 kn] r) (g [o 18 (bu .eql 12 22),m 17 18] (c 17 (g [o 19 (fa 1 5),o 20 (ld 1 19),o 21 (li 1 [20]),m 4 21] r) (g [o 23 (bu .eql 12 23),m 22 23] (c 22 (g [m 24 1,o 25 (bi .add 24 1),o 26 (fa 2 5),o 27 (ld 1 26),o 28 (.ext (.litB 1 [(.t 25),(.t 27)])),m 6 28] (g [m 29 6,o 30 (cg tF [29])] (g [m 31 6,o 32 (cg u4 [31]),m 4 32] r))) k))))))))) (g [m 33 1,o 34 (bi .add 33 1),o 35 (li 1 [34]),m 4 35] r)))⟩
def WY:List (List Nat):=[[777777,28]]
def vx:AFunc:=⟨19,[.tmp 4],(g [V 4 0] (q (g [m 6 0,o 7 (le 6),V 8 0] (bl 0 (lo [0,1,7,8] (g [o 9 (b .lss 8 7)] (q (c 9 k (e 0)) (q (bl 1 (g [m 10 8,m 5 10] (g [m 11 1,m 12 0,m 13 5,o 14 (ia 1 12 13),o 15 (ld 1 14),o 16 (.call (.t 11) [(.t 15)])] (c 16 (g [m 17 5,m 4 17] r) k)))) (p [o 18 (bi .add 8 1),m 8 18]))))))) (g [V 4 (-1)] r)))⟩
def vk:List (List Nat):=[[0,1,7,8]]
def xI:AFunc:=⟨9,[.tmp 4],(g [W 4 kf] (g [m 5 0,m 6 1,o 7 (cg vA [5,6]),o 8 (bi .geq 7 0),m 4 8] r))⟩
def xE:List (List Nat):=[]
def u3:AFunc:=⟨8,[.tmp 3],(g [W 3 kf] (g [o 4 (lg 10 1),m 5 0,o 6 (.lit 1 [(ku 1),(ku 2),(ku 4)]),o 7 (cg z7 [4,5,6]),m 3 7] r))⟩
def vS:List (List Nat):=[]
def tv:AFunc:=⟨9,[.tmp 2],(g [W 2 kn] (g [m 3 0,m 4 0,o 5 (le 4),m 6 0,o 7 (le 6),o 8 (.slice 1 (.t 3) none (some (.t 5)) (some (.t 7))),m 2 8] r))⟩
def tg:List (List Nat):=[]
def jK:AFunc:=⟨21,[],(q (g [m 6 0,o 7 (lg 2 1),o 8 (.call (.t 6) [(.t 7)]),o 9 (.un .not (.t 8))] (c 9 r k)) (g [o 10 (ld 1 2),o 11 (le 10),V 12 0] (bl 0 (lo [0,10,11,12] (g [o 13 (b .lss 12 11)] (q (c 13 k (e 0)) (q (bl 1 (g [o 14 (ia 2 10 12),o 15 (lg 2 14),o 5 (.alloc [.int .u64 (0),.nils]),s 2 5 (.t 15)] (g [m 16 0,o 17 (lg 2 5),o 18 (.call (.t 16) [(.t 17)]),o 19 (.un .not (.t 18))] (c 19 r k)))) (p [o 20 (bi .add 12 1),m 12 20]))))))))⟩
def jv:List (List Nat):=[[0,10,11,12]]
def tu:AFunc:=⟨11,[],(g [m 3 0,o 4 (le 3),m 2 4] (p [m 5 0,m 6 2,m 7 2,o 8 (.conv .u64 (.t 7)),o 9 (cg t4 [8]),o 10 (cf zr [(.t 5),(ki 0),(.t 6),(.t 9)])]))⟩
def tf:List (List Nat):=[]
def vU:AFunc:=⟨61,[.tmp 2],(g [W 2 kn] (q (g [m 6 0,o 7 (le 6),o 8 (bi .lss 7 2)] (c 8 (g [m 9 0,m 2 9] r) k)) (q (g [V 3 1] (bl 0 (lo [0,3] (q (g [m 10 3,m 11 0,o 12 (le 11),o 13 (b .lss 10 12)] (c 13 k (e 0))) (q (bl 1 (q (.draw [m 16 0,m 17 3,o 18 (ia 1 16 17),o 19 (ld 1 18),m 20 0,m 21 3,o 22 (bi .sub 21 1),o 23 (ia 1 20 22),o 24 (ld 1 23),o 25 (b .eql 19 24)]) (c 25 (g [m 26 0,m 27 3,o 28 (.slice 1 (.t 26) (some (.t 27)) none none),m 4 28] (q (g [V 5 1] (bl 2 (lo [0,3,4,5] (q (g [m 29 5,m 30 4,o 31 (le 30),o 32 (b .lss 29 31)] (c 32 k (e 2))) (q (bl 3 (q (.draw [m 35 4,m 36 5,o 37 (ia 1 35 36),o 38 (ld 1 37),m 39 4,m 40 5,o 41 (bi .sub 40 1),o 42 (ia 1 39 41),o 43 (ld 1 42),o 44 (b .neq 38 43)]) (c 44 (g [m 45 0,m 46 3,m 47 4,m 48 5,o 49 (ia 1 47 48),o 50 (ld 1 49),o 51 (ia 1 45 46),s 1 51 (.t 50)] (p [m 52 3,o 53 (bi .add 52 1),m 3 53])) k))) (p [m 33 5,o 34 (bi .add 33 1),m 5 34])))))) (g [m 54 0,m 55 3,o 56 (.slice 1 (.t 54) (some (.t 55)) none none),⟨none,.ext (.clr [iz] (.t 56)),none,false⟩] (g [m 57 0,m 58 3,o 59 (.slice 1 (.t 57) none (some (.t 58)) none),m 2 59] r)))) k))) (p [m 14 3,o 15 (bi .add 14 1),m 3 15])))))) (g [m 60 0,m 2 60] r))))⟩
def vM:List (List Nat):=[[0,3],[0,3,4,5],[777777,654321]]
def vw:AFunc:=⟨19,[.tmp 4],(g [V 4 0] (q (g [m 6 0,o 7 (le 6),V 8 0] (bl 0 (lo [0,1,7,8] (g [o 9 (b .lss 8 7)] (q (c 9 k (e 0)) (q (bl 1 (g [m 10 8,m 5 10] (g [m 11 1,m 12 0,m 13 5,o 14 (ia 1 12 13),o 15 (ld 1 14),o 16 (b .eql 11 15)] (c 16 (g [m 17 5,m 4 17] r) k)))) (p [o 18 (bi .add 8 1),m 8 18]))))))) (g [V 4 (-1)] r)))⟩
def vj:List (List Nat):=[[0,1,7,8]]
def vd:AFunc:=⟨134,[],(g [W 8 kt] (g [W 9 kt] (bl 0 (lo [0,1,2,3,8,9] (bl 1 (g [m 19 2,m 20 1,o 21 (b .sub 19 20),m 10 21] (q (g [m 22 10,o 23 (bi .leq 22 12)] (c 23 (g [m 24 0,m 25 1,m 26 2,o 27 (cg yW [24,25,26])] r) k)) (q (g [m 28 3,o 29 (bi .eql 28 0)] (c 29 (g [m 30 0,m 31 1,m 32 2,o 33 (cg xT [30,31,32])] r) k)) (q (g [m 34 8,o 35 (.un .not (.t 34))] (c 35 (g [m 36 0,m 37 1,m 38 2,o 39 (cg yX [36,37,38])] (p [m 40 3,o 41 (bi .sub 40 1),m 3 41])) k)) (g [m 43 0,m 44 1,m 45 2,o 46 (cg xl [43,44,45]),m 42 46,o 47 (ex 42 0),o 48 (ex 42 1),m 11 47,m 12 48] (q (g [m 49 12,o 50 (bi .eql 49 2)] (c 50 (g [m 51 0,m 52 1,m 53 2,o 54 (cg xe [51,52,53])] (g [m 55 2,o 56 (bi .sub 55 1),m 57 11,m 58 1,o 59 (b .sub 57 58),o 60 (b .sub 56 59),m 11 60] (p [V 12 1]))) k)) (q (g [m 61 8,m 62 61,y 63 62 (mt 9),o 64 (pf 62 63),m 65 64,y 66 65 (mt 12),y 67 65 (bi .eql 66 1),o 68 (pf 65 67)] (c 68 (g [m 69 0,m 70 1,m 71 2,o 72 (cg ya [69,70,71])] (c 72 r k)) k)) (q (q (.draw [m 73 1,o 74 (bi .gtr 73 0),m 75 74,y 76 75 (mt 0),y 77 75 (mt 1),y 78 75 (bi .sub 77 1),y 79 75 (ia 1 76 78),y 80 75 (ld 1 79),y 81 75 (mt 0),y 82 75 (mt 11),y 83 75 (ia 1 81 82),y 84 75 (ld 1 83),y 85 75 (cg z9 [80,84]),y 86 75 (.un .not (.t 85)),o 87 (pf 75 86)]) (c 87 (g [m 88 0,m 89 1,m 90 2,m 91 11,o 92 (cg yK [88,89,90,91]),m 13 92] (g [m 93 13,m 1 93] (e 1))) k)) (g [m 95 0,m 96 1,m 97 2,m 98 11,o 99 (cg xL [95,96,97,98]),m 94 99,o 100 (ex 94 0),o 101 (ex 94 1),m 14 100,m 15 101] (g [m 102 15,m 9 102] (g [m 103 14,m 104 1,o 105 (b .sub 103 104),m 106 2,m 107 14,o 108 (b .sub 106 107),m 16 105,m 17 108] (g [m 109 10,o 110 (bi .quo 109 8),m 18 110] (g [m 111 16,m 112 17,o 113 (b .lss 111 112)] (c 113 (g [m 114 16,m 115 18,o 116 (b .geq 114 115),m 8 116] (g [m 117 0,m 118 1,m 119 14,m 120 3,o 121 (cg zr [117,118,119,120])] (p [m 122 14,o 123 (bi .add 122 1),m 1 123]))) (g [m 124 17,m 125 18,o 126 (b .geq 124 125),m 8 126] (g [m 127 0,m 128 14,o 129 (bi .add 128 1),m 130 2,m 131 3,o 132 (cg zr [127,129,130,131])] (p [m 133 14,m 2 133]))))))))))))))))))))))⟩
def v8:List (List Nat):=[[0,1,2,3,8,9],[777777,654321]]
def Y8:AFunc:=⟨8,[.tmp 2],(g [V 2 0] (q (.cond kf (g [m 3 0,o 4 (.conv .u32 (.t 3)),o 5 (cg kD [4]),m 2 5] r) k) (g [m 6 0,o 7 (cg kz [6]),m 2 7] r)))⟩
def ZU:List (List Nat):=[]
def yU:AFunc:=⟨49,[],(g [m 8 1,o 9 (bi .add 8 1),m 6 9] (bl 0 (lo [0,1,2,6] (q (g [m 10 6,m 11 2,o 12 (b .lss 10 11)] (c 12 k (e 0))) (q (bl 1 (g [m 15 6,m 7 15] (bl 2 (lo [0,1,2,6,7] (q (q (.draw [m 16 7,m 17 1,o 18 (b .gtr 16 17),m 19 18,y 20 19 (mt 0),y 21 19 (mt 7),y 22 19 (ia 1 20 21),y 23 19 (ld 1 22),y 24 19 (mt 0),y 25 19 (mt 7),y 26 19 (bi .sub 25 1),y 27 19 (ia 1 24 26),y 28 19 (ld 1 27),y 29 19 (cg z9 [23,28]),o 30 (pf 19 29)]) (c 30 k (e 2))) (q (bl 3 (.draw [m 33 0,m 34 7,m 35 0,m 36 7,o 37 (bi .sub 36 1),m 38 0,m 39 7,o 40 (bi .sub 39 1),o 41 (ia 1 38 40),o 42 (ld 1 41),m 43 0,m 44 7,o 45 (ia 1 43 44),o 46 (ld 1 45),o 47 (ia 1 33 34),s 1 47 (.t 42),o 48 (ia 1 35 37),s 1 48 (.t 46)])) (p [m 31 7,o 32 (bi .sub 31 1),m 7 32]))))))) (p [m 13 6,o 14 (bi .add 13 1),m 6 14]))))))⟩
def yS:List (List Nat):=[[0,1,2,6],[0,1,2,6,7],[777777,654321]]
def xQ:AFunc:=⟨56,[],(g [m 11 1,m 6 11] (g [V 7 0] (g [m 12 2,m 13 1,o 14 (b .sub 12 13),m 8 14] (q (g [m 15 8,o 16 (bi .sub 15 1),o 17 (bi .quo 16 2),m 9 17] (bl 0 (lo [0,6,7,8,9] (q (g [m 18 9,o 19 (bi .geq 18 0)] (c 19 k (e 0))) (q (bl 1 (p [m 22 0,m 23 9,m 24 8,m 25 6,o 26 (cg zX [22,23,24,25])])) (p [m 20 9,o 21 (bi .sub 20 1),m 9 21])))))) (g [m 27 8,o 28 (bi .sub 27 1),m 10 28] (bl 2 (lo [0,6,7,10] (q (g [m 29 10,o 30 (bi .geq 29 0)] (c 30 k (e 2))) (q (bl 3 (q (.draw [m 33 0,m 34 6,m 35 0,m 36 6,m 37 10,o 38 (b .add 36 37),m 39 0,m 40 6,m 41 10,o 42 (b .add 40 41),o 43 (ia 1 39 42),o 44 (ld 1 43),m 45 0,m 46 6,o 47 (ia 1 45 46),o 48 (ld 1 47),o 49 (ia 1 33 34),s 1 49 (.t 44),o 50 (ia 1 35 38),s 1 50 (.t 48)]) (p [m 51 0,m 52 7,m 53 10,m 54 6,o 55 (cg zX [51,52,53,54])]))) (p [m 31 10,o 32 (bi .sub 31 1),m 10 32]))))))))))⟩
def xO:List (List Nat):=[[0,6,7,8,9],[0,6,7,10],[777777,654321]]
def yV:AFunc:=⟨65,[],(g [m 11 2,m 12 1,o 13 (b .sub 11 12),m 6 13] (g [m 14 6,o 15 (bi .geq 14 8)] (c 15 (g [m 16 6,o 17 (.conv .u64 (.t 16)),o 7 (.alloc [.int .u64 (0)]),s 1 7 (.t 17)] (g [m 18 6,o 19 (cg uv [18]),m 8 19] (g [m 20 1,m 21 6,o 22 (bi .quo 21 4),o 23 (bi .mul 22 2),o 24 (b .add 20 23),o 25 (bi .sub 24 1),m 9 25] (bl 0 (lo [0,1,6,7,8,9] (q (g [m 26 9,m 27 1,m 28 6,o 29 (bi .quo 28 4),o 30 (bi .mul 29 2),o 31 (b .add 27 30),o 32 (bi .add 31 1),o 33 (b .leq 26 32)] (c 33 k (e 0))) (q (bl 1 (g [o 36 (cg uV [7]),m 37 8,o 38 (.bin .sub (.t 37) (.c (.int .u64 (1)))),o 39 (b .and 36 38),o 40 (.conv .i64 (.t 39)),m 10 40] (q (g [m 41 10,m 42 6,o 43 (b .geq 41 42)] (c 43 (p [m 44 10,m 45 6,o 46 (b .sub 44 45),m 10 46]) k)) (.draw [m 47 0,m 48 9,m 49 0,m 50 1,m 51 10,o 52 (b .add 50 51),m 53 0,m 54 1,m 55 10,o 56 (b .add 54 55),o 57 (ia 1 53 56),o 58 (ld 1 57),m 59 0,m 60 9,o 61 (ia 1 59 60),o 62 (ld 1 61),o 63 (ia 1 47 48),s 1 63 (.t 58),o 64 (ia 1 49 52),s 1 64 (.t 62)])))) (p [m 34 9,o 35 (bi .add 34 1),m 9 35])))))))) k)))⟩
def yT:List (List Nat):=[[0,1,6,7,8,9],[777777,654321]]
def xk:AFunc:=⟨57,[.tmp 6,.tmp 7],(g [V 6 0,V 7 0] (g [m 13 2,m 14 1,o 15 (b .sub 13 14),m 8 15] (g [o 9 (.alloc [iz])] (g [m 16 1,m 17 8,o 18 (bi .quo 17 4),o 19 (bi .mul 18 1),o 20 (b .add 16 19),m 10 20] (g [m 21 1,m 22 8,o 23 (bi .quo 22 4),o 24 (bi .mul 23 2),o 25 (b .add 21 24),m 11 25] (g [m 26 1,m 27 8,o 28 (bi .quo 27 4),o 29 (bi .mul 28 3),o 30 (b .add 26 29),m 12 30] (q (g [m 31 8,o 32 (bi .geq 31 8)] (c 32 (q (g [m 33 8,o 34 (bi .geq 33 50)] (c 34 (g [m 35 0,m 36 10,o 37 (cg ze [35,36,9]),m 10 37] (g [m 38 0,m 39 11,o 40 (cg ze [38,39,9]),m 11 40] (p [m 41 0,m 42 12,o 43 (cg ze [41,42,9]),m 12 43]))) k)) (p [m 44 0,m 45 10,m 46 11,m 47 12,o 48 (cg yj [44,45,46,47,9]),m 11 48])) k)) (g [o 49 (ld 1 9)] (bl 0 (g [o 52 (bi .eql 49 0),m 51 52] (c 51 (g [m 53 11,m 6 53,V 7 1] r) (g [o 55 (bi .eql 49 12),m 54 55] (c 54 (g [m 56 11,m 6 56,V 7 2] r) (g [m 50 11,m 6 50,V 7 0] r))))))))))))))⟩
def xj:List (List Nat):=[]
def x8:AFunc:=⟨32,[],(g [m 8 1,m 6 8] (g [m 9 2,o 10 (bi .sub 9 1),m 7 10] (bl 0 (lo [0,6,7] (q (g [m 11 6,m 12 7,o 13 (b .lss 11 12)] (c 13 k (e 0))) (bl 1 (q (.draw [m 14 0,m 15 6,m 16 0,m 17 7,m 18 0,m 19 7,o 20 (ia 1 18 19),o 21 (ld 1 20),m 22 0,m 23 6,o 24 (ia 1 22 23),o 25 (ld 1 24),o 26 (ia 1 14 15),s 1 26 (.t 21),o 27 (ia 1 16 17),s 1 27 (.t 25)]) (g [m 28 6,o 29 (bi .add 28 1),m 6 29] (p [m 30 7,o 31 (bi .sub 30 1),m 7 31])))))))))⟩
def yZ:List (List Nat):=[[0,6,7],[777777,654321]]
def y8:AFunc:=⟨133,[.tmp 6],(g [W 6 kf] (g [m 11 1,o 12 (bi .add 11 1),m 7 12] (q (g [V 8 0] (bl 0 (lo [0,1,2,7,8] (q (g [m 13 8,o 14 (bi .lss 13 5)] (c 14 k (e 0))) (q (bl 1 (q (bl 2 (lo [0,1,2,7,8] (q (q (.draw [m 17 7,m 18 2,o 19 (b .lss 17 18),m 20 19,y 21 20 (mt 0),y 22 20 (mt 7),y 23 20 (ia 1 21 22),y 24 20 (ld 1 23),y 25 20 (mt 0),y 26 20 (mt 7),y 27 20 (bi .sub 26 1),y 28 20 (ia 1 25 27),y 29 20 (ld 1 28),y 30 20 (cg z9 [24,29]),y 31 20 (.un .not (.t 30)),o 32 (pf 20 31)]) (c 32 k (e 2))) (bl 3 (p [m 33 7,o 34 (bi .add 33 1),m 7 34]))))) (q (g [m 35 7,m 36 2,o 37 (b .eql 35 36)] (c 37 (g [W 6 kt] r) k)) (q (g [m 38 2,m 39 1,o 40 (b .sub 38 39),o 41 (bi .lss 40 50)] (c 41 (g [W 6 kf] r) k)) (q (.draw [m 42 0,m 43 7,m 44 0,m 45 7,o 46 (bi .sub 45 1),m 47 0,m 48 7,o 49 (bi .sub 48 1),o 50 (ia 1 47 49),o 51 (ld 1 50),m 52 0,m 53 7,o 54 (ia 1 52 53),o 55 (ld 1 54),o 56 (ia 1 42 43),s 1 56 (.t 51),o 57 (ia 1 44 46),s 1 57 (.t 55)]) (q (g [m 58 7,m 59 1,o 60 (b .sub 58 59),o 61 (bi .geq 60 2)] (c 61 (g [m 62 7,o 63 (bi .sub 62 1),m 9 63] (bl 4 (lo [0,1,2,7,8,9] (q (g [m 64 9,o 65 (bi .geq 64 1)] (c 65 k (e 4))) (q (bl 5 (q (q (.draw [m 68 0,m 69 9,o 70 (ia 1 68 69),o 71 (ld 1 70),m 72 0,m 73 9,o 74 (bi .sub 73 1),o 75 (ia 1 72 74),o 76 (ld 1 75),o 77 (cg z9 [71,76]),o 78 (.un .not (.t 77))]) (c 78 (e 4) k)) (.draw [m 79 0,m 80 9,m 81 0,m 82 9,o 83 (bi .sub 82 1),m 84 0,m 85 9,o 86 (bi .sub 85 1),o 87 (ia 1 84 86),o 88 (ld 1 87),m 89 0,m 90 9,o 91 (ia 1 89 90),o 92 (ld 1 91),o 93 (ia 1 79 80),s 1 93 (.t 88),o 94 (ia 1 81 83),s 1 94 (.t 92)]))) (p [m 66 9,o 67 (bi .sub 66 1),m 9 67])))))) k)) (g [m 95 2,m 96 7,o 97 (b .sub 95 96),o 98 (bi .geq 97 2)] (c 98 (g [m 99 7,o 100 (bi .add 99 1),m 10 100] (bl 6 (lo [0,1,2,7,8,10] (q (g [m 101 10,m 102 2,o 103 (b .lss 101 102)] (c 103 k (e 6))) (q (bl 7 (q (q (.draw [m 106 0,m 107 10,o 108 (ia 1 106 107),o 109 (ld 1 108),m 110 0,m 111 10,o 112 (bi .sub 111 1),o 113 (ia 1 110 112),o 114 (ld 1 113),o 115 (cg z9 [109,114]),o 116 (.un .not (.t 115))]) (c 116 (e 6) k)) (.draw [m 117 0,m 118 10,m 119 0,m 120 10,o 121 (bi .sub 120 1),m 122 0,m 123 10,o 124 (bi .sub 123 1),o 125 (ia 1 122 124),o 126 (ld 1 125),m 127 0,m 128 10,o 129 (ia 1 127 128),o 130 (ld 1 129),o 131 (ia 1 117 118),s 1 131 (.t 126),o 132 (ia 1 119 121),s 1 132 (.t 130)]))) (p [m 104 10,o 105 (bi .add 104 1),m 10 105])))))) k)))))))) (p [m 15 8,o 16 (bi .add 15 1),m 8 16])))))) (g [W 6 kf] r))))⟩
def y3:List (List Nat):=[[0,1,2,7,8],[0,1,2,7,8],[0,1,2,7,8,9],[0,1,2,7,8,10],[777777,654321]]
def W8:AFunc:=⟨17,[.tmp 4],(g [W 4 kf] (g [m 5 0,o 6 (cg t6 [5]),m 7 6,y 8 7 (mt 1),y 9 7 (cg t6 [8]),y 10 7 (.un .not (.t 9)),o 11 (pf 7 10),m 12 11,z 13 12 (mt 0),z 14 12 (mt 1),z 15 12 (b .lss 13 14),o 16 (pt 12 15),m 4 16] r))⟩
def X0:List (List Nat):=[]
def yH:AFunc:=⟨84,[.tmp 8],(g [V 8 0] (q (.draw [m 11 0,m 12 1,m 13 0,m 14 3,m 15 0,m 16 3,o 17 (ia 1 15 16),o 18 (ld 1 17),m 19 0,m 20 1,o 21 (ia 1 19 20),o 22 (ld 1 21),o 23 (ia 1 11 12),s 1 23 (.t 18),o 24 (ia 1 13 14),s 1 24 (.t 22)]) (g [m 25 1,o 26 (bi .add 25 1),m 27 2,o 28 (bi .sub 27 1),m 9 26,m 10 28] (q (bl 0 (lo [0,1,9,10] (bl 1 (q (bl 2 (lo [0,1,9,10] (q (q (.draw [m 29 9,m 30 10,o 31 (b .leq 29 30),m 32 31,y 33 32 (mt 0),y 34 32 (mt 1),y 35 32 (ia 1 33 34),y 36 32 (ld 1 35),y 37 32 (mt 0),y 38 32 (mt 9),y 39 32 (ia 1 37 38),y 40 32 (ld 1 39),y 41 32 (cg z9 [36,40]),y 42 32 (.un .not (.t 41)),o 43 (pf 32 42)]) (c 43 k (e 2))) (bl 3 (p [m 44 9,o 45 (bi .add 44 1),m 9 45]))))) (q (bl 4 (lo [0,1,9,10] (q (q (.draw [m 46 9,m 47 10,o 48 (b .leq 46 47),m 49 48,y 50 49 (mt 0),y 51 49 (mt 1),y 52 49 (ia 1 50 51),y 53 49 (ld 1 52),y 54 49 (mt 0),y 55 49 (mt 10),y 56 49 (ia 1 54 55),y 57 49 (ld 1 56),y 58 49 (cg z9 [53,57]),o 59 (pf 49 58)]) (c 59 k (e 4))) (bl 5 (p [m 60 10,o 61 (bi .sub 60 1),m 10 61]))))) (q (g [m 62 9,m 63 10,o 64 (b .gtr 62 63)] (c 64 (e 0) k)) (q (.draw [m 65 0,m 66 9,m 67 0,m 68 10,m 69 0,m 70 10,o 71 (ia 1 69 70),o 72 (ld 1 71),m 73 0,m 74 9,o 75 (ia 1 73 74),o 76 (ld 1 75),o 77 (ia 1 65 66),s 1 77 (.t 72),o 78 (ia 1 67 68),s 1 78 (.t 76)]) (g [m 79 9,o 80 (bi .add 79 1),m 9 80] (p [m 81 10,o 82 (bi .sub 81 1),m 10 82]))))))))) (g [m 83 9,m 8 83] r)))))⟩
def yF:List (List Nat):=[[0,1,9,10],[0,1,9,10],[0,1,9,10],[777777,654321]]
def xH:AFunc:=⟨168,[.tmp 8,.tmp 9],(g [V 8 0,W 9 kf] (q (.draw [m 12 0,m 13 1,m 14 0,m 15 3,m 16 0,m 17 3,o 18 (ia 1 16 17),o 19 (ld 1 18),m 20 0,m 21 1,o 22 (ia 1 20 21),o 23 (ld 1 22),o 24 (ia 1 12 13),s 1 24 (.t 19),o 25 (ia 1 14 15),s 1 25 (.t 23)]) (g [m 26 1,o 27 (bi .add 26 1),m 28 2,o 29 (bi .sub 28 1),m 10 27,m 11 29] (q (bl 0 (lo [0,1,10,11] (q (q (.draw [m 30 10,m 31 11,o 32 (b .leq 30 31),m 33 32,y 34 33 (mt 0),y 35 33 (mt 10),y 36 33 (ia 1 34 35),y 37 33 (ld 1 36),y 38 33 (mt 0),y 39 33 (mt 1),y 40 33 (ia 1 38 39),y 41 33 (ld 1 40),y 42 33 (cg z9 [37,41]),o 43 (pf 33 42)]) (c 43 k (e 0))) (bl 1 (p [m 44 10,o 45 (bi .add 44 1),m 10 45]))))) (q (bl 2 (lo [0,1,10,11] (q (q (.draw [m 46 10,m 47 11,o 48 (b .leq 46 47),m 49 48,y 50 49 (mt 0),y 51 49 (mt 11),y 52 49 (ia 1 50 51),y 53 49 (ld 1 52),y 54 49 (mt 0),y 55 49 (mt 1),y 56 49 (ia 1 54 55),y 57 49 (ld 1 56),y 58 49 (cg z9 [53,57]),y 59 49 (.un .not (.t 58)),o 60 (pf 49 59)]) (c 60 k (e 2))) (bl 3 (p [m 61 11,o 62 (bi .sub 61 1),m 11 62]))))) (q (g [m 63 10,m 64 11,o 65 (b .gtr 63 64)] (c 65 (q (.draw [m 66 0,m 67 11,m 68 0,m 69 1,m 70 0,m 71 1,o 72 (ia 1 70 71),o 73 (ld 1 72),m 74 0,m 75 11,o 76 (ia 1 74 75),o 77 (ld 1 76),o 78 (ia 1 66 67),s 1 78 (.t 73),o 79 (ia 1 68 69),s 1 79 (.t 77)]) (g [m 80 11,m 8 80,W 9 kt] r)) k)) (q (.draw [m 81 0,m 82 10,m 83 0,m 84 11,m 85 0,m 86 11,o 87 (ia 1 85 86),o 88 (ld 1 87),m 89 0,m 90 10,o 91 (ia 1 89 90),o 92 (ld 1 91),o 93 (ia 1 81 82),s 1 93 (.t 88),o 94 (ia 1 83 84),s 1 94 (.t 92)]) (g [m 95 10,o 96 (bi .add 95 1),m 10 96] (g [m 97 11,o 98 (bi .sub 97 1),m 11 98] (q (bl 4 (lo [0,1,10,11] (bl 5 (q (bl 6 (lo [0,1,10,11] (q (q (.draw [m 99 10,m 100 11,o 101 (b .leq 99 100),m 102 101,y 103 102 (mt 0),y 104 102 (mt 10),y 105 102 (ia 1 103 104),y 106 102 (ld 1 105),y 107 102 (mt 0),y 108 102 (mt 1),y 109 102 (ia 1 107 108),y 110 102 (ld 1 109),y 111 102 (cg z9 [106,110]),o 112 (pf 102 111)]) (c 112 k (e 6))) (bl 7 (p [m 113 10,o 114 (bi .add 113 1),m 10 114]))))) (q (bl 8 (lo [0,1,10,11] (q (q (.draw [m 115 10,m 116 11,o 117 (b .leq 115 116),m 118 117,y 119 118 (mt 0),y 120 118 (mt 11),y 121 118 (ia 1 119 120),y 122 118 (ld 1 121),y 123 118 (mt 0),y 124 118 (mt 1),y 125 118 (ia 1 123 124),y 126 118 (ld 1 125),y 127 118 (cg z9 [122,126]),y 128 118 (.un .not (.t 127)),o 129 (pf 118 128)]) (c 129 k (e 8))) (bl 9 (p [m 130 11,o 131 (bi .sub 130 1),m 11 131]))))) (q (g [m 132 10,m 133 11,o 134 (b .gtr 132 133)] (c 134 (e 4) k)) (q (.draw [m 135 0,m 136 10,m 137 0,m 138 11,m 139 0,m 140 11,o 141 (ia 1 139 140),o 142 (ld 1 141),m 143 0,m 144 10,o 145 (ia 1 143 144),o 146 (ld 1 145),o 147 (ia 1 135 136),s 1 147 (.t 142),o 148 (ia 1 137 138),s 1 148 (.t 146)]) (g [m 149 10,o 150 (bi .add 149 1),m 10 150] (p [m 151 11,o 152 (bi .sub 151 1),m 11 152]))))))))) (q (.draw [m 153 0,m 154 11,m 155 0,m 156 1,m 157 0,m 158 1,o 159 (ia 1 157 158),o 160 (ld 1 159),m 161 0,m 162 11,o 163 (ia 1 161 162),o 164 (ld 1 163),o 165 (ia 1 153 154),s 1 165 (.t 160),o 166 (ia 1 155 156),s 1 166 (.t 164)]) (g [m 167 11,m 8 167,W 9 kf] r))))))))))))⟩
def xD:List (List Nat):=[[0,1,10,11],[0,1,10,11],[0,1,10,11],[0,1,10,11],[0,1,10,11],[777777,654321]]
def kq:AFunc:=⟨19,[.tmp 2],(g [V 2 0] (q (g [m 3 0,o 4 (.bin .geq (.t 3) (.c (.int .u32 (65536))))] (c 4 (g [m 5 0,o 6 (.bin .shr (.t 5) (.c (.int .u64 (16)))),m 0 6] (p [V 2 16])) k)) (q (g [m 7 0,o 8 (.bin .geq (.t 7) (.c (.int .u32 (256))))] (c 8 (g [m 9 0,o 10 (.bin .shr (.t 9) (.c (.int .u64 (8)))),m 0 10] (p [m 11 2,o 12 (bi .add 11 8),m 2 12])) k)) (g [m 13 2,m 14 0,o 15 (.conv .u8 (.t 14)),o 16 (.indexS (.c (.str [0,1,2,2,3,3,3,3,4,4,4,4,4,4,4,4,5,5,5,5,5,5,5,5,5,5,5,5,5,5,5,5,6,6,6,6,6,6,6,6,6,6,6,6,6,6,6,6,6,6,6,6,6,6,6,6,6,6,6,6,6,6,6,6,7,7,7,7,7,7,7,7,7,7,7,7,7,7,7,7,7,7,7,7,7,7,7,7,7,7,7,7,7,7,7,7,7,7,7,7,7,7,7,7,7,7,7,7,7,7,7,7,7,7,7,7,7,7,7,7,7,7,7,7,7,7,7,7,8,8,8,8,8,8,8,8,8,8,8,8,8,8,8,8,8,8,8,8,8,8,8,8,8,8,8,8,8,8,8,8,8,8,8,8,8,8,8,8,8,8,8,8,8,8,8,8,8,8,8,8,8,8,8,8,8,8,8,8,8,8,8,8,8,8,8,8,8,8,8,8,8,8,8,8,8,8,8,8,8,8,8,8,8,8,8,8,8,8,8,8,8,8,8,8,8,8,8,8,8,8,8,8,8,8,8,8,8,8,8,8,8,8,8,8,8,8,8,8,8,8,8,8,8,8,8,8])) (.t 15)),o 17 (.conv .i64 (.t 16)),o 18 (b .add 13 17),m 2 18] r))))⟩
def k8:List (List Nat):=[]
def kp:AFunc:=⟨25,[.tmp 2],(g [V 2 0] (q (g [m 3 0,o 4 (.bin .geq (.t 3) (.c (.int .u64 (4294967296))))] (c 4 (g [m 5 0,o 6 (.bin .shr (.t 5) (.c (.int .u64 (32)))),m 0 6] (p [V 2 32])) k)) (q (g [m 7 0,o 8 (.bin .geq (.t 7) (.c (.int .u64 (65536))))] (c 8 (g [m 9 0,o 10 (.bin .shr (.t 9) (.c (.int .u64 (16)))),m 0 10] (p [m 11 2,o 12 (bi .add 11 16),m 2 12])) k)) (q (g [m 13 0,o 14 (.bin .geq (.t 13) (.c (.int .u64 (256))))] (c 14 (g [m 15 0,o 16 (.bin .shr (.t 15) (.c (.int .u64 (8)))),m 0 16] (p [m 17 2,o 18 (bi .add 17 8),m 2 18])) k)) (g [m 19 2,m 20 0,o 21 (.conv .u8 (.t 20)),o 22 (.indexS (.c (.str [0,1,2,2,3,3,3,3,4,4,4,4,4,4,4,4,5,5,5,5,5,5,5,5,5,5,5,5,5,5,5,5,6,6,6,6,6,6,6,6,6,6,6,6,6,6,6,6,6,6,6,6,6,6,6,6,6,6,6,6,6,6,6,6,7,7,7,7,7,7,7,7,7,7,7,7,7,7,7,7,7,7,7,7,7,7,7,7,7,7,7,7,7,7,7,7,7,7,7,7,7,7,7,7,7,7,7,7,7,7,7,7,7,7,7,7,7,7,7,7,7,7,7,7,7,7,7,7,8,8,8,8,8,8,8,8,8,8,8,8,8,8,8,8,8,8,8,8,8,8,8,8,8,8,8,8,8,8,8,8,8,8,8,8,8,8,8,8,8,8,8,8,8,8,8,8,8,8,8,8,8,8,8,8,8,8,8,8,8,8,8,8,8,8,8,8,8,8,8,8,8,8,8,8,8,8,8,8,8,8,8,8,8,8,8,8,8,8,8,8,8,8,8,8,8,8,8,8,8,8,8,8,8,8,8,8,8,8,8,8,8,8,8,8,8,8,8,8,8,8,8,8,8,8,8,8])) (.t 21)),o 23 (.conv .i64 (.t 22)),o 24 (b .add 19 23),m 2 24] r)))))⟩
def k7:List (List Nat):=[]
def xP:AFunc:=⟨76,[],(g [m 10 1,m 8 10] (bl 0 (lo [0,2,3,8] (bl 1 (g [m 11 8,o 12 (.bin .mul (ki 2) (.t 11)),o 13 (bi .add 12 1),m 9 13] (q (g [m 14 9,m 15 2,o 16 (b .geq 14 15)] (c 16 (e 0) k)) (q (q (.draw [m 17 9,o 18 (bi .add 17 1),m 19 2,o 20 (b .lss 18 19),m 21 20,y 22 21 (mt 0),y 23 21 (mt 3),y 24 21 (mt 9),y 25 21 (b .add 23 24),y 26 21 (ia 1 22 25),y 27 21 (ld 1 26),y 28 21 (mt 0),y 29 21 (mt 3),y 30 21 (mt 9),y 31 21 (b .add 29 30),y 32 21 (bi .add 31 1),y 33 21 (ia 1 28 32),y 34 21 (ld 1 33),y 35 21 (cg z9 [27,34]),o 36 (pf 21 35)]) (c 36 (p [m 37 9,o 38 (bi .add 37 1),m 9 38]) k)) (q (q (.draw [m 39 0,m 40 3,m 41 8,o 42 (b .add 40 41),o 43 (ia 1 39 42),o 44 (ld 1 43),m 45 0,m 46 3,m 47 9,o 48 (b .add 46 47),o 49 (ia 1 45 48),o 50 (ld 1 49),o 51 (cg z9 [44,50]),o 52 (.un .not (.t 51))]) (c 52 r k)) (q (.draw [m 53 0,m 54 3,m 55 8,o 56 (b .add 54 55),m 57 0,m 58 3,m 59 9,o 60 (b .add 58 59),m 61 0,m 62 3,m 63 9,o 64 (b .add 62 63),o 65 (ia 1 61 64),o 66 (ld 1 65),m 67 0,m 68 3,m 69 8,o 70 (b .add 68 69),o 71 (ia 1 67 70),o 72 (ld 1 71),o 73 (ia 1 53 56),s 1 73 (.t 66),o 74 (ia 1 57 60),s 1 74 (.t 72)]) (p [m 75 9,m 8 75]))))))))))⟩
def xN:List (List Nat):=[[0,2,3,8],[777777,654321]]
def up:AFunc:=⟨7,[.tmp 2],(g [o 2 (v (.c (.int .u64 (0))))] (g [m 3 0,o 4 (.conv .u64 (.t 3)),o 5 (cg t4 [4]),o 6 (.bin .shl (.c (.int .u64 (1))) (.t 5)),m 2 6] r))⟩
def uf:List (List Nat):=[]
def uO:AFunc:=⟨33,[.tmp 2],(g [o 2 (v (.c (.int .u64 (0))))] (q (.draw [m 3 0,o 4 (.ext (.nilChk (.t 3))),o 5 (ld 1 4),m 6 0,o 7 (.ext (.nilChk (.t 6))),o 8 (ld 1 7),o 9 (.bin .shl (.t 8) (.c (.int .u64 (13)))),o 10 (b .xor 5 9),o 11 (.ext (.nilChk (.t 3))),s 1 11 (.t 10)]) (q (.draw [m 12 0,o 13 (.ext (.nilChk (.t 12))),o 14 (ld 1 13),m 15 0,o 16 (.ext (.nilChk (.t 15))),o 17 (ld 1 16),o 18 (.bin .shr (.t 17) (.c (.int .u64 (7)))),o 19 (b .xor 14 18),o 20 (.ext (.nilChk (.t 12))),s 1 20 (.t 19)]) (q (.draw [m 21 0,o 22 (.ext (.nilChk (.t 21))),o 23 (ld 1 22),m 24 0,o 25 (.ext (.nilChk (.t 24))),o 26 (ld 1 25),o 27 (.bin .shl (.t 26) (.c (.int .u64 (17)))),o 28 (b .xor 23 27),o 29 (.ext (.nilChk (.t 21))),s 1 29 (.t 28)]) (g [m 30 0,o 31 (.ext (.nilChk (.t 30))),o 32 (ld 1 31),m 2 32] r)))))⟩
def uA:List (List Nat):=[[777777,654321]]
def yI:AFunc:=⟨15,[.tmp 6],(g [V 6 0] (g [m 7 0,m 8 1,o 9 (bi .sub 8 1),m 10 1,m 11 1,o 12 (bi .add 11 1),m 13 2,o 14 (cg yj [7,9,10,12,13]),m 6 14] r))⟩
def yG:List (List Nat):=[]
def vu:AFunc:=⟨36,[.tmp 10],(g [V 10 0] (g [m 12 0,m 13 1,m 14 2,m 15 4,o 16 (cg zx [12,13,14,15]),m 11 16,o 17 (ex 11 0),o 18 (ex 11 1),m 1 17,m 2 18] (g [m 20 0,m 21 2,m 22 3,m 23 4,o 24 (cg zx [20,21,22,23]),m 19 24,o 25 (ex 19 0),o 26 (ex 19 1),m 2 25,m 3 26] (g [m 28 0,m 29 1,m 30 2,m 31 4,o 32 (cg zx [28,29,30,31]),m 27 32,o 33 (ex 27 0),o 34 (ex 27 1),m 1 33,m 2 34] (g [m 35 2,m 10 35] r)))))⟩
def vi:List (List Nat):=[]
def Ye:AFunc:=⟨6,[.tmp 2],(g [W 2 kf] (g [m 3 0,m 4 0,o 5 (b .neq 3 4),m 2 5] r))⟩
def Y2:List (List Nat):=[]
def vt:AFunc:=⟨28,[.tmp 8,.tmp 9],(g [V 8 0,V 9 0] (q (q (.draw [m 10 0,m 11 2,o 12 (ia 1 10 11),o 13 (ld 1 12),m 14 0,m 15 1,o 16 (ia 1 14 15),o 17 (ld 1 16),o 18 (cg z9 [13,17])]) (c 18 (g [m 19 3,o 20 (.ext (.nilChk (.t 19))),o 21 (ld 1 20),o 22 (bi .add 21 1),o 23 (.ext (.nilChk (.t 19))),s 1 23 (.t 22)] (g [m 24 2,m 25 1,m 8 24,m 9 25] r)) k)) (g [m 26 1,m 27 2,m 8 26,m 9 27] r)))⟩
def vh:List (List Nat):=[[777777,654321]]
def tab0p0:Nat→Option AFunc|6=>some zq|28=>some y7|29=>some y5|30=>some xS|31=>some uR|32=>some vy|37=>some Q2|59=>some VQ|71=>some uo|72=>some Vh|73=>some Y9|74=>some qg|75=>some qh|76=>some yh|77=>some y6|78=>some vW|79=>some xa|80=>some xb|81=>some xq|89=>some Yd|90=>some VP|91=>some VN|92=>some TV|98=>some TO|120=>some TU|126=>some Yc|127=>some z1J|130=>some Y7|132=>some Vt|133=>some jL|136=>some TW|138=>some Ze|141=>some kr|145=>some ko|146=>some XY|147=>some z0s|148=>some TY|149=>some Vv|150=>some xR|162=>some z0D|163=>some VO|164=>some VD|165=>some Vu|168=>some Vj|169=>some Vo|170=>some Vw|171=>some XV|172=>some qS|179=>some XQ|185=>some VB|186=>some Zd|189=>some Vq|190=>some TL|191=>some W5|192=>some yC|193=>some qW|196=>some qQ|197=>some qP|198=>some z0r|199=>some z0t|200=>some TX|211=>some VM|212=>some W4|213=>some VL|214=>some jO|215=>some VK|216=>some jM|217=>some VJ|218=>some qk|219=>some VI|220=>some jN|221=>some VH|222=>some qX|223=>some VG|224=>some Q3|225=>some xp|226=>some XX|227=>some Vz|228=>some zM|229=>some Y6|230=>some XU|231=>some Z9|232=>some XS|233=>some XZ|234=>some TP|235=>some vV|236=>some TM|237=>some qR|238=>some tt|239=>some qT|240=>some Vi|241=>some Y4|242=>some z0o|247=>some z0p|249=>some z0w|250=>some z0z|252=>some TT|253=>some W2|254=>some VA|255=>some VC|_=>none
def tab0p1:Nat→Option AFunc|256=>some XR|257=>some x9|258=>some TZ|259=>some jJ|260=>some Vn|261=>some Vm|262=>some Zc|263=>some W0|273=>some ql|274=>some tw|275=>some qV|276=>some uq|277=>some Vg|278=>some z0A|279=>some z0q|280=>some uQ|281=>some W6|282=>some tD|283=>some uS|284=>some u0|285=>some Q0|286=>some z0y|287=>some Vl|288=>some Vr|289=>some Vy|290=>some Ya|291=>some y9|292=>some XT|293=>some Zb|294=>some qU|295=>some TN|296=>some Vp|297=>some z0u|298=>some z0v|299=>some z0x|300=>some z1K|301=>some XW|303=>some Z8|304=>some Vk|305=>some W3|306=>some TS|307=>some zW|308=>some Yb|309=>some TR|317=>some tz|318=>some TQ|319=>some Y5|320=>some Vf|321=>some Q1|322=>some VE|323=>some Zf|324=>some vX|325=>some W9|326=>some tA|327=>some tC|328=>some vZ|329=>some xJ|330=>some vz|331=>some qY|332=>some vY|333=>some ur|334=>some tE|335=>some uT|336=>some tB|337=>some z0C|338=>some uP|339=>some uU|340=>some z0B|341=>some W7|342=>some Za|343=>some qi|344=>some qj|345=>some Vx|346=>some W1|347=>some yi|352=>some VF|353=>some vx|354=>some xI|355=>some u3|356=>some tv|357=>some jK|358=>some tu|359=>some vU|360=>some vw|361=>some vd|362=>some Y8|363=>some yU|364=>some xQ|365=>some yV|366=>some xk|367=>some x8|368=>some y8|369=>some W8|370=>some yH|371=>some xH|372=>some kq|373=>some kp|374=>some xP|375=>some up|376=>some uO|_=>none
def tab0p2:Nat→Option AFunc|377=>some yI|378=>some vu|379=>some Ye|380=>some vt|_=>none
def tab0 (f:Nat):Option AFunc:=match tab0p0 f with|some a=>some a|none=>match tab0p1 f with|some a=>some a|none=>tab0p2 f
def tab (f:Nat):Option AFunc:=if f=28 then some (constFn true) else tab0 f
theorem xY:tab zf=some zq:=rfl
theorem t9:tab zj=some (constFn true):=rfl
theorem t7:tab zh=some y5:=rfl
theorem ZP:tab zD=some xS:=rfl
theorem UW:tab yw=some uR:=rfl
theorem Yx:tab yn=some vy:=rfl
theorem tK:tab zn=some yh:=rfl
theorem t8:tab zi=some y6:=rfl
theorem Wt:tab zZ=some vW:=rfl
theorem jT:tab yc=some xa:=rfl
theorem Yy:tab xh=some xb:=rfl
theorem kJ:tab yu=some xq:=rfl
theorem ZO:tab zg=some xR:=rfl
def gfun (f:Nat):Bool:=Nat.beq (Nat.land (Nat.shiftRight 2361183241434822606848 f) 1) 1
end Go.Proofs.W
end
section
namespace Go.Vs
open Go.RowKit
def tiles (P:Program):Nat→List Field→Nat→Bool
 |o,[],e=>o==e
 |o,f::r,e=>f.offset==o&&tiles P (o+P.cellsOf f.type) r e
def plainIn (P:Program) (S:List TypeId) (t:TypeId):Bool:=
 match P.underlying t with
 |some .bool|some (.int _)|some .string=>true
 |some (.slice e)=>S.contains e&&decide (0<P.cellsOf e)
 |some (.struct fs)=>(fs.toList.all fun f=>S.contains f.type)&&tiles P 0 fs.toList (P.cellsOf t)
 |some (.array n e)=>S.contains e&&(P.cellsOf t==n*P.cellsOf e)
 |_=>false
def plainAll (P:Program) (S:List TypeId):Bool:=S.all (plainIn P S)
def IsElem (P:Program) (e:TypeId) (y:AV):Prop:=if aggT P e=some true then∃cs,y= .agg cs else y.cells=[y]
def Typed (P:Program):Nat→TypeId→List AV→Prop
 |0,_,_=>False
 |n+1,t,xs=>
  match P.underlying t with
  |some .bool=> ∃b,xs=[.bool b]
  |some (.int k)=> ∃i,xs=[.int k i]∧(Lit.int k i).wf=true
  |some .string=> ∃l,xs=[.str l]∧l.length≤maxLen
  |some (.slice e)=>xs=[.nils]∨ ∃ys,xs=[.list (P.cellsOf e) .none ys]∧ys.length≤maxLen∧ ∀y∈ys,IsElem P e y∧Typed P n e y.cells
  |some (.struct fs)=>xs.length=P.cellsOf t∧ ∀f∈fs.toList,Typed P n f.type ((xs.drop f.offset).take (P.cellsOf f.type))
  |some (.array k e)=>xs.length=P.cellsOf t∧ ∀i,i<k→Typed P n e ((xs.drop (i*P.cellsOf e)).take (P.cellsOf e))
  |_=>False
section
variable {H : Type} {enc : TypeId × Value → H} {P : Program} {g : G} {w : World}
theorem Uj {n:Nat} {e:TypeId} {xs:List AV} (h:Typed P n e xs) (ha:aggT P e≠some true): ∃y,xs=[y]∧y.cells=[y]:=by
 cases n with
 |zero=>exact h.elim
 |succ n=>
  unfold Typed at h
  unfold aggT at ha
  split at h
  ·obtain⟨b,rfl⟩:=h;exact⟨_,rfl,rfl⟩
  ·obtain⟨i,rfl,_⟩:=h;exact⟨_,rfl,rfl⟩
  ·obtain⟨l,rfl,_⟩:=h;exact⟨_,rfl,rfl⟩
  ·rcases h with rfl|⟨ys,rfl,_⟩<;>exact⟨_,rfl,rfl⟩
  ·rename_i fs hu;rw[hu] at ha;exact absurd rfl ha
  ·rename_i k e hu;rw[hu] at ha;exact absurd rfl ha
  ·exact h.elim
theorem Yw {n:Nat} {T:TypeId→List Value→Prop} (ih: ∀t cs,T t cs→ ∃xs,Typed P n t xs∧Reps g w xs cs∧ ∀c∈cs,c.oneCell'=true):
  ∀(fs:List Field) (o e:Nat) (cs:List Value),tiles P o fs e=true→cs.length=e→(∀f∈fs,T f.type ((cs.drop f.offset).take (P.cellsOf f.type)))→
   ∃ys,Reps g w ys (cs.drop o)∧(∀c∈cs.drop o,c.oneCell'=true)∧o≤e∧ ∀(xs:List AV),xs.drop o=ys→(∀f∈fs,Typed P n f.type ((xs.drop f.offset).take (P.cellsOf f.type)))
 | [],o,e,cs,ht,hl,_=>by
  have:o=e:=by simpa [tiles] using ht
  subst this
  rw[←hl,List.drop_length]
  exact⟨[],Reps.nil g w,(fun c hc=>by cases hc),w0c _,(fun xs _ f hf=>by cases hf)⟩
 |f::r,o,e,cs,ht,hl,hT=>by
  simp only[tiles,w03,beq_iff_eq] at ht
  obtain⟨ho,ht⟩:=ht
  obtain⟨zs,k1,k2,k3,k4⟩:=Yw ih r (o+P.cellsOf f.type) e cs ht hl (fun q hq=>hT q (w1b _ hq))
  obtain⟨xf,h1,h2,h3⟩:=ih _ _ (hT f w20)
  rw[ho] at h2 h3
  have hsplit:cs.drop o=(cs.drop o).take (P.cellsOf f.type)++cs.drop (o+P.cellsOf f.type):=by
   rw[←List.drop_drop,List.take_append_drop]
  have hxl:xf.length=P.cellsOf f.type:=by
   rw[←h2.1,w21,List.length_drop,hl];omega
  refine⟨xf++zs,by rw[hsplit];exact h2.append k1,fun c hc=> ?_,by omega,fun xs hxs q hq=> ?_⟩
  ·rw[hsplit] at hc
   rcases w07.1 hc with hc|hc
   ·exact h3 c hc
   ·exact k2 c hc
  ·rcases w15.1 hq with rfl|hq
   ·rw[ho,hxs,List.take_append_of_le_length (by omega),List.take_of_length_le (by omega)]
    exact h1
   ·refine k4 xs ?_ q hq
    rw[←List.drop_drop,hxs,List.drop_append_of_le_length (by omega),List.drop_of_length_le (by omega)]
    rfl
theorem Zm {n c:Nat} {e:TypeId} {T:List Value→Prop} (ih: ∀cs,T cs→ ∃xs,Typed P n e xs∧Reps g w xs cs∧ ∀c∈cs,c.oneCell'=true):
  ∀(k:Nat) (cs:List Value),cs.length=k*c→(∀i,i<k→T ((cs.drop (i*c)).take c))→
   ∃xs,Reps g w xs cs∧(∀c∈cs,c.oneCell'=true)∧ ∀i,i<k→Typed P n e ((xs.drop (i*c)).take c)
 |0,cs,hl,_=>by
  have:cs=[]:=w10 (by simpa using hl)
  subst this
  exact⟨[],Reps.nil g w,(fun c hc=>by cases hc),(fun i hi=>by omega)⟩
 |k+1,cs,hl,hT=>by
  have hlen:(cs.drop c).length=k*c:=by rw[List.length_drop,hl,w22];omega
  obtain⟨zs,k1,k2,k3⟩:=Zm (c:=c) ih k (cs.drop c) hlen (fun i hi=>by
   have:=hT (i+1) (by omega)
   rw[List.drop_drop]
   rw[show c+i*c=(i+1)*c by rw[w22];omega]
   exact this)
  obtain⟨x0,h1,h2,h3⟩:=ih _ (hT 0 (by omega))
  simp only[Nat.zero_mul,List.drop_zero] at h2 h3
  have hxl:x0.length=c:=by
   rw[←h2.1,w21,hl,w22];omega
  refine⟨x0++zs,?_,fun v hv=> ?_,fun i hi=> ?_⟩
  ·have:=h2.append k1
   rwa [List.take_append_drop] at this
  ·rw[←List.take_append_drop c cs] at hv
   rcases w07.1 hv with hv|hv
   ·exact h3 v hv
   ·exact k2 v hv
  ·cases i with
   |zero=>
    rw[Nat.zero_mul,List.drop_zero,List.take_append_of_le_length (by omega),List.take_of_length_le (by omega)]
    exact h1
   |succ i=>
    have:=k3 i (by omega)
    have hd:(x0++zs).drop c=zs:=by rw[←hxl];simp
    rw[show(i+1)*c=c+i*c by rw[w22];omega,←List.drop_drop,hd]
    exact this
theorem kb {α β:Type} {f:α→Option β}: ∀{l:List α} {r:List β},l.mapM f=some r→ ∀x∈l,∃y,f x=some y
 | [],_,_,x,hx=>by cases hx
 |a::l,r,h,x,hx=>by
  rw[List.mapM_cons] at h
  simp only[Option.bind_eq_bind,w01] at h
  obtain⟨y,h1,ys,h2,_⟩:=h
  rcases w15.1 hx with rfl|hx
  ·exact⟨y,h1⟩
  ·exact kb h2 x hx
theorem z0Q {S:List TypeId} (hS:plainAll P S=true) (hg: ∀b o,g.own b o=none) {base:Nat} {spare:Nat→Bool} {held:Bool}: ∀(n:Nat) (t:TypeId) (cs:List Value) (x:DataW H×List MemPlace),t∈S→DataW.trod enc P w base spare held n t cs=some x→
  ∃xs,Typed P n t xs∧Reps g w xs cs∧ ∀c∈cs,c.oneCell'=true:=by
 intro n
 induction n with
 |zero=>intro t cs x _ h;simp[DataW.trod] at h
 |succ n ih=>
  intro t cs x ht h
  have hp:plainIn P S t=true:=w27.1 hS t ht
  unfold plainIn at hp
  have one: ∀(y:AV) (v:Value),Rep g w y v→v.oneCell'=true→Reps g w [y] [v]∧ ∀c∈[v],c.oneCell'=true:=
   fun y v hr hone=>⟨Reps.cons hr (Reps.nil g w),fun c hc=>by rw[w2d.1 hc];exact hone⟩
  unfold DataW.trod at h
  split at h
  all_goals (try (rename_i hu;rw[hu] at hp;cases hp;done))
  ·rename_i b hu
   exact⟨[.bool b],by simp only[Typed,hu];exact⟨b,rfl⟩,one _ _ (.bool b) rfl⟩
  ·rename_i k k' i hu
   split at h
   ·rename_i hk
    obtain⟨rfl,hwf⟩:=hk
    exact⟨[.int k' i],by simp only[Typed,hu];exact⟨i,rfl,hwf⟩,one _ _ (.int k' i) rfl⟩
   ·cases h
  ·rename_i s hu
   split at h
   ·rename_i hs
    exact⟨[.str s.data.toList],by simp only[Typed,hu];exact⟨_,rfl,by simpa using hs⟩,one _ _ (.str _ s rfl) rfl⟩
   ·cases h
  ·rename_i e hu
   exact⟨[.nils],by simp[Typed,hu],one _ _ .nils rfl⟩
  ·rename_i e a len cap hu
   simp only at h
   rw[hu] at hp
   simp only[w03,decide_eq_true_eq] at hp
   obtain⟨heS,hc0⟩:=hp
   have heS':e∈S:=by simpa using heS
   split at h
   ·rename_i hcond
    obtain⟨_,hle,hmax⟩:=hcond
    simp only[w01] at h
    obtain⟨elems,hel,_⟩:=h
    have hall:=kb hel
    have each: ∀i,i<len→ ∃(cs:List Value) (xs:List AV),cs.length=P.cellsOf e∧(∀j,j<P.cellsOf e→w.cell? ((a.add (i*P.cellsOf e)).add j)=cs[j]?)∧Typed P n e xs∧Reps g w xs cs∧ ∀c∈cs,c.oneCell'=true:=by
     intro i hi
     obtain⟨y,hy⟩:=hall i (List.mem_range.2 hi)
     simp only[w01] at hy
     obtain⟨cs,h1,h2⟩:=hy
     obtain⟨_,h3,h4⟩:=World.cells?_some h1
     obtain⟨xs,k1,k2,k3⟩:=ih e cs y heS' h2
     exact⟨cs,xs,h3,h4,k1,k2,k3⟩
    by_cases hlen:len=0
    ·subst hlen
     exact⟨[.list (P.cellsOf e) .none []],by simp only[Typed,hu];exact .inr ⟨[],rfl,by simp,fun y hy=>by cases hy⟩,one _ _ (.empty _ _ _ _ (.inl rfl)) rfl⟩
    ·
     obtain⟨b,o,spot⟩:=a
     have hspot:spot=none:=by
      obtain⟨cs,xs,h1,h2,_⟩:=each 0 (by omega)
      have h3:=h2 0 hc0
      rw[w09 (by omega)] at h3
      have:=World.cell?_spot h3
      simpa [Addr.add] using this
     subst hspot
     have each': ∀i,∃(cs:List Value) (y:AV),i<len→cs.length=P.cellsOf e∧(∀j,j<P.cellsOf e→w.cell? ⟨b,o+(i*P.cellsOf e+j),none⟩=cs[j]?)∧IsElem P e y∧Typed P n e y.cells∧Reps g w y.cells cs∧ ∀c∈cs,c.oneCell'=true:=by
      intro i
      by_cases hi:i<len
      ·obtain⟨cs,xs,h1,h2,h3,h4,h5⟩:=each i hi
       have h2': ∀j,j<P.cellsOf e→w.cell? ⟨b,o+(i*P.cellsOf e+j),none⟩=cs[j]? :=fun j hj=>by
        have:=h2 j hj
        rw[Addr.add_mid,Addr.add_mid,w30] at this
        exact this
       by_cases ha:aggT P e=some true
       ·exact⟨cs,.agg xs,fun _=>⟨h1,h2',by unfold IsElem;rw[if_pos ha];exact⟨xs,rfl⟩,h3,h4,h5⟩⟩
       ·obtain⟨y,rfl,hy⟩:=Uj h3 ha
        exact⟨cs,y,fun _=>⟨h1,h2',by unfold IsElem;rw[if_neg ha];exact hy,by rw[hy];exact h3,by rw[hy];exact h4,h5⟩⟩
      ·exact⟨[],.undef,fun h=>absurd h hi⟩
     have hf:=fun i=>(each' i).choose_spec
     let fc:Nat→List Value:=fun i=>(each' i).choose
     let fy:Nat→AV:=fun i=>(hf i).choose
     have key: ∀i,i<len→(fc i).length=P.cellsOf e∧(∀j,j<P.cellsOf e→w.cell? ⟨b,o+(i*P.cellsOf e+j),none⟩=(fc i)[j]?)∧IsElem P e (fy i)∧Typed P n e (fy i).cells∧Reps g w (fy i).cells (fc i)∧ ∀c∈fc i,c.oneCell'=true:=
      fun i hi=>(hf i).choose_spec hi
     let ys:=(List.range len).map fy
     have hys:ys.length=len:=by simp[ys]
     have hget: ∀(i:Nat) (y:AV),ys[i]? =some y→i<len∧y=fy i:=by
      intro i y hy
      have hi:i<len:=by rw[←hys];exact(w05.1 hy).1
      simp only[ys,w14,w31 hi,w04,Option.some.injEq] at hy
      exact⟨hi,hy.symm⟩
     have hcell: ∀(i j:Nat) (y c:AV),ys[i]? =some y→y.cells[j]? =some c→ ∃v,(fc i)[j]? =some v∧w.cell? ⟨b,o+(i*P.cellsOf e+j),none⟩=some v∧Rep g w c v∧v.oneCell'=true:=by
      intro i j y c h1 h2
      obtain⟨hi,rfl⟩:=hget i y h1
      obtain⟨k1,k2,k3,k4,k5,k6⟩:=key i hi
      obtain⟨v,h3,h4⟩:=k5.get h2
      have hj:j<P.cellsOf e:=by rw[←k1];exact(w05.1 h3).1
      exact⟨v,h3,by rw[k2 j hj];exact h3,h4,k6 v (w28 h3)⟩
     have hrep:=Rep.list (g:=g) (w:=w) (P.cellsOf e) .none ys b o cap (fun i j=>((fc i)[j]?).getD Go.undef)
      (fun i y hy=>by obtain⟨hi,rfl⟩:=hget i y hy;obtain⟨k1,_,_,_,k5,_⟩:=key i hi;rw[←k5.1,k1]) (by rw[hys];exact hle) trivial
      (fun i j y c h1 h2=>by
       obtain⟨v,h3,h4,h5,h6⟩:=hcell i j y c h1 h2
       rw[h3]
       exact⟨h4,hg _ _,h6⟩)
      (fun i j y c h1 h2=>by
       obtain⟨v,h3,h4,h5,h6⟩:=hcell i j y c h1 h2
       rw[h3]
       exact h5)
     rw[hys] at hrep
     refine⟨[.list (P.cellsOf e) .none ys],?_,one _ _ hrep rfl⟩
     simp only[Typed,hu]
     refine .inr ⟨ys,rfl,by rw[hys];omega,fun y hy=> ?_⟩
     obtain⟨i,hi⟩:=List.getElem?_of_mem hy
     obtain⟨hil,rfl⟩:=hget i y hi
     obtain⟨_,_,k3,k4,_⟩:=key i hil
     exact⟨k3,k4⟩
   ·cases h
  ·rename_i fs hu
   rw[hu] at hp
   simp only[w03] at hp
   obtain⟨hfs,htile⟩:=hp
   split at h
   ·rename_i hlen
    simp only[w00] at h
    obtain⟨ys,hm,_⟩:=h
    have hall:=kb hm
    obtain⟨xs,k1,k2,_,k3⟩:=Yw (P:=P) (g:=g) (w:=w) (n:=n) (T:=fun t c=>t∈S∧ ∃y,DataW.trod enc P w base spare held n t c=some y)
     (fun t c ⟨ht,y,hy⟩=>ih t c y ht hy) fs.toList 0 (P.cellsOf t) _ htile hlen (fun f hf=>⟨by simpa using w27.1 hfs f hf,hall f hf⟩)
    rw[List.drop_zero] at k1 k2
    refine⟨xs,?_,k1,k2⟩
    simp only[Typed,hu]
    exact⟨by rw[←k1.1];exact hlen,k3 xs (List.drop_zero ..)⟩
   ·cases h
  ·rename_i k e hu
   rw[hu] at hp
   simp only[w03,beq_iff_eq] at hp
   obtain⟨heS,hsz⟩:=hp
   have heS':e∈S:=by simpa using heS
   split at h
   ·rename_i hlen
    simp only[w00] at h
    obtain⟨ys,hm,_⟩:=h
    have hall:=kb hm
    obtain⟨xs,k1,k2,k3⟩:=Zm (P:=P) (g:=g) (w:=w) (n:=n) (c:=P.cellsOf e) (e:=e) (T:=fun c=> ∃y,DataW.trod enc P w base spare held n e c=some y)
     (fun c ⟨y,hy⟩=>ih e c y heS' hy) k _ (by rw[hlen,hsz]) (fun i hi=>hall i (List.mem_range.2 hi))
    refine⟨xs,?_,k1,k2⟩
    simp only[Typed,hu]
    exact⟨by rw[←k1.1];exact hlen,k3⟩
   ·cases h
  ·cases h
end
end Go.Vs
end
section
namespace Go.Vs
open Go.RowKit Go.ChangeShapes Go.WideShapes
section
variable {H : Type} {enc : TypeId × Value → H} {P : Program} {g : G} {W : World}
theorem z15 {t:TypeId} {r:Reach} {base:Nat} {v:Value} (ha:aggT P t=some true) (h:Value.okWide P W r base t v): ∃cs,v= .agg cs:=by
 unfold aggT at ha
 unfold Value.okWide at h
 split at ha
 ·rename_i fs hu;rw[hu] at h;obtain⟨cs,h,_⟩:=h;exact⟨cs,h⟩
 ·rename_i n e hu;rw[hu] at h;obtain⟨cs,h,_⟩:=h;exact⟨cs,h⟩
 ·cases ha
 ·cases ha
theorem Wx {S:List TypeId} {t:TypeId} {r:Reach} {base:Nat} {v:Value} (hp:plainIn P S t=true) (ha:aggT P t≠some true) (h:Value.okWide P W r base t v):v.cells= #[v]:=by
 unfold plainIn at hp
 unfold aggT at ha
 split at hp
 ·rename_i hu;obtain⟨b,rfl⟩:=okWide_bool hu h;rfl
 ·rename_i hu;obtain⟨b,rfl⟩:=okWide_int hu h;rfl
 ·rename_i hu;obtain⟨b,rfl⟩:=okWide_string hu h;rfl
 ·rename_i hu;obtain⟨a,b,c,rfl⟩:=okWide_slice hu h;rfl
 ·rename_i hu;rw[hu] at ha;exact absurd rfl ha
 ·rename_i hu;rw[hu] at ha;exact absurd rfl ha
 ·cases hp
def ArgT (P:Program) (t:TypeId) (y:AV):Prop:=IsElem P t y∧ ∃n,Typed P n t y.cells
def ArgsT (P:Program):List TypeId→List AV→Prop
 | [],ys=>ys=[]
 |t::ts,ys=> ∃y r,ys=y::r∧ArgT P t y∧ArgsT P ts r
theorem z30 {S:List TypeId} (hS:plainAll P S=true) (hg: ∀b o,g.own b o=none) {r:Reach} {b0 base:Nat} {spare:Nat→Bool} {held:Bool} {t:TypeId} {v:Value} {d:DataW H} {ps:List MemPlace} (ht:t∈S)
  (hok:Value.okWide P W r b0 t v) (h:DataW.Trod enc P W base spare held t v d ps): ∃y,ArgT P t y∧Rep g W y v:=by
 obtain⟨n,hn⟩:=h
 obtain⟨xs,h1,h2,_⟩:=z0Q hS hg n t _ _ ht hn
 by_cases ha:aggT P t=some true
 ·obtain⟨cs,rfl⟩:=z15 ha hok
  refine⟨.agg xs,⟨by unfold IsElem;rw[if_pos ha];exact⟨xs,rfl⟩,n,h1⟩,?_⟩
  have:=h2.agg
  simpa [Value.cells] using this
 ·obtain⟨y,rfl,hy⟩:=Uj h1 ha
  rw[Wx (w27.1 hS t ht) ha hok] at h2
  refine⟨y,⟨by unfold IsElem;rw[if_neg ha];exact hy,n,by rw[hy];exact h1⟩,?_⟩
  exact h2.2 0 _ _ rfl rfl
theorem XJ {S:List TypeId} (hS:plainAll P S=true) (hg: ∀b o,g.own b o=none) {r:Reach} {b0 base:Nat} {spare:Nat→Bool} {held:Bool}:
  ∀(ts:List TypeId) (vs:List Value) (ds:List (DataW H)) (ps:List MemPlace),(∀t∈ts,t∈S)→(∀(j:Nat) t v,ts[j]? =some t→vs[j]? =some v→Value.okWide P W r b0 t v)→DataW.TrodAll enc P W base spare held ts vs ds ps→
   (∃ys,ArgsT P ts ys∧Reps g W ys vs)∧ds.length=ts.length
 | [],vs,ds,ps,_,_,h=>by
  obtain⟨rfl,rfl,_⟩:=trodAll_nil h
  exact⟨⟨[],rfl,Reps.nil g W⟩,rfl⟩
 |t::ts,vs,ds,ps,hin,hok,h=>by
  match vs,ds,h with
  |v::vs,d::ds,h=>
   obtain⟨p,q,h1,h2,_⟩:=h
   obtain⟨y,k1,k2⟩:=z30 hS hg (hin t w20) (hok 0 t v rfl rfl) h1
   obtain⟨⟨ys,k3,k4⟩,k5⟩:=XJ hS hg ts vs ds q (fun u hu=>hin u (w1b _ hu)) (fun j u x hj hx=>hok (j+1) u x hj hx) h2
   exact⟨⟨y::ys,⟨y,ys,rfl,k1,k3⟩,Reps.cons k2 k4⟩,by simp[k5]⟩
def G.zero (b:Nat):G:=⟨fun _=>none,fun _=>none,fun _ _=>none,b,fun _=>false,fun _=>none⟩
def Mem.zero:Mem:=⟨[],[],0,[],0⟩
theorem QZ (W:World):Inv (G.zero W.heap.size) W Mem.zero where
 blk:=fun bl h _=>by simp[Mem.all,Mem.zero] at h
 nd:=by simp[Mem.all,Mem.zero]
 stlt:=fun st x h=>by cases h
 tklt:=fun t x h=>by cases h
 live:=fun t h=>by simp[Mem.zero] at h
 ownb:=fun b o x h=>by cases h
 hbase:=w0c _
 lnd:=List.nodup_nil
 rsv:=fun st h=>by cases h
 mpk:=fun st b h=>by cases h
theorem Zl (hl:laidOutB P=true) {W':World} (hb:Below W.heap.size W W'): ∀(ts:List TypeId) (vs:List Value) (ds:List (DataW H)) (ps:List MemPlace),(∀t∈ts,P.readableRec t=true∧t<P.types.size)→(∀x∈ps,x.block<W.heap.size)→
  DataW.TrodAll enc P W 0 (fun _=>true) true ts vs ds ps→DataW.TrodAll enc P W' 0 (fun b=>decide (b<W.heap.size)) true ts vs ds ps
 | [],vs,ds,ps,_,_,h=>by
  obtain⟨rfl,rfl,rfl⟩:=trodAll_nil h
  rfl
 |t::ts,vs,ds,ps,hin,hlt,h=>by
  match vs,ds,h with
  |v::vs,d::ds,h=>
   obtain⟨p,q,h1,h2,rfl⟩:=h
   have ht:=hin t w20
   exact⟨p,q,Below.trod hl ht.1 ht.2 h1 hb (fun x hx=>hlt x (w34 _ hx)),Zl hl hb ts vs ds q (fun u hu=>hin u (w1b _ hu)) (fun x hx=>hlt x (w2e _ hx)) h2,rfl⟩
theorem z3m {tab:Nat→Option AFunc} (hM:P.follows .mixedOrders=true) (hT:TabOk P tab) {S:List TypeId} (hS:plainAll P S=true) (hl:laidOutB P=true) {f:FuncId} {fn:Func} {s:ChangeSpec} {tb:TypeId} (hvars:s.vars=[])
  (hparams:(fn.params.toList.all fun t=>S.contains t&&P.readableRec t&&decide (t<P.types.size))=true) (hres:fn.resultTypes= #[tb]) (htb:P.underlying tb=some .bool)
  (hspec: ∀ds:List (DataW H),ds.length=fn.params.toList.length→s.fn H ds={results:=[.lit (.bool true)],args:=ds})
  (K: ∀ys,ArgsT P fn.params.toList ys→ ∃m',CALL tab f ys Mem.zero=some (.bool true,m'))
  {base:Nat} {args:Array Value} {ds gs:List (DataW H)} {before:List MemPlace} {fresh handsOn:Bool}
  (hval: ∀(j:Nat) t v,fn.params[j]? =some t→args[j]? =some v→Value.okWide P W .any base t v)
  (hW:DataW.Whole enc P fn.params.toList s.vars false W args.toList ds gs before):
  Calls P f args W fun e W'=> ∃v,e= .returned v∧s.post enc P fn false fresh handsOn false W args v W':=by
 have hW':=hW
 obtain⟨p,q,hA,hV,rfl,_,_⟩:=hW
 rw[hvars] at hV
 obtain⟨rfl,rfl⟩:=trodVars_none hV
 simp only[w27,w03,decide_eq_true_eq] at hparams
 obtain⟨⟨ys,h1,h2⟩,h3⟩:=XJ (g:=G.zero W.heap.size) hS (fun _ _=>rfl) fn.params.toList args.toList ds p (fun t ht=>by simpa using (hparams t ht).1.1) (fun j t v hj hv=>hval j t v (by simpa using hj) (by simpa using hv)) hA
 obtain⟨m',hc⟩:=K ys h1
 obtain⟨_,hcall⟩:=z56 hM hT (C:= .top) hc (w2a _)
 refine(hcall (G.zero W.heap.size) W args.toList trivial (QZ W) h2).mono fun e W' ⟨v,g',he,hx,_,hr⟩=> ?_
 subst he
 have hb:Below W.heap.size W W':=hx.below
 rw[hr.inv_bool]
 have hsp:=hspec ds h3
 have hlt:=hW'.lt
 refine⟨_,rfl,ds,[],_,[],p,[],hW',?_,?_,?_,hb.frame _,fun h=>by cases h⟩
 ·rw[List.append_nil,hsp,hres]
  exact trodAll_mk1 (shut_bool htb true)
 ·rw[List.append_nil,hsp]
  exact Zl hl hb _ _ _ _ (fun t ht=>⟨(hparams t ht).1.2,(hparams t ht).2⟩) (fun x hx=>hlt x (w34 _ hx)) hA
 ·rw[List.append_nil,hsp,hvars];rfl
end
end Go.Vs
end
section
namespace Go.Vs
def All2 {α:Type} (R:α→AV→Prop):List α→List AV→Prop
 | [],[]=>True
 |x::xs,y::ys=>R x y∧All2 R xs ys
 |_,_=>False
section
variable {α : Type} {R : α → AV → Prop}
theorem All2.len: ∀{xs:List α} {ys:List AV},All2 R xs ys→ys.length=xs.length
 | [],[],_=>rfl
 |x::xs,y::ys,h=>by simp[All2.len h.2]
 | [],_::_,h=>h.elim
 |_::_,[],h=>h.elim
theorem All2.get: ∀{xs:List α} {ys:List AV},All2 R xs ys→ ∀(i:Nat) (h:i<xs.length),ys[i]? =some (ys.getD i .undef)∧R xs[i] (ys.getD i .undef)
 | [],[],_,i,h=>by simp at h
 |x::xs,y::ys,h,0,_=>⟨rfl,h.1⟩
 |x::xs,y::ys,h,i+1,hi=>by
  have:=All2.get h.2 i (by simpa using hi)
  simpa using this
 | [],_::_,h,_,_=>h.elim
 |_::_,[],h,_,_=>h.elim
theorem All2.append: ∀{xs xs':List α} {ys ys':List AV},All2 R xs ys→All2 R xs' ys'→All2 R (xs++xs') (ys++ys')
 | [],_,[],_,_,k=>k
 |x::xs,_,y::ys,_,h,k=>⟨h.1,All2.append h.2 k⟩
 | [],_,_::_,_,h,_=>h.elim
 |_::_,_,[],_,h,_=>h.elim
theorem All2.take: ∀(n:Nat) {xs:List α} {ys:List AV},All2 R xs ys→All2 R (xs.take n) (ys.take n)
 |0,_,_,_=>by simp[All2]
 |n+1,[],[],_=>by simp[All2]
 |n+1,x::xs,y::ys,h=>⟨h.1,All2.take n h.2⟩
 |n+1,[],_::_,h=>h.elim
 |n+1,_::_,[],h=>h.elim
theorem All2.drop: ∀(n:Nat) {xs:List α} {ys:List AV},All2 R xs ys→All2 R (xs.drop n) (ys.drop n)
 |0,_,_,h=>h
 |n+1,[],[],_=>by simp[All2]
 |n+1,x::xs,y::ys,h=>All2.drop n h.2
 |n+1,[],_::_,h=>h.elim
 |n+1,_::_,[],h=>h.elim
theorem All2.mono {S:α→AV→Prop}: ∀{xs:List α} {ys:List AV},(∀x y,x∈xs→R x y→S x y)→All2 R xs ys→All2 S xs ys
 | [],[],_,_=>trivial
 |x::xs,y::ys,k,h=>⟨k x y w20 h.1,All2.mono (fun a b ha=>k a b (w1b _ ha)) h.2⟩
 | [],_::_,_,h=>h.elim
 |_::_,[],_,h=>h.elim
def IsSl (R:α→AV→Prop) (s:Nat) (xs:List α) (y:AV):Prop:=
 xs.length≤9223372036854775807∧((xs=[]∧y= .nils)∨ ∃tk ys,y= .list s tk ys∧All2 R xs ys)
def nth (y:AV) (i:Nat):AV:=
 match y with
 | .list _ _ ys=>ys.getD i .undef
 |_=> .undef
theorem IsSl.nil (s:Nat):IsSl R s [] .nils:=⟨by simp,.inl ⟨rfl,rfl⟩⟩
theorem IsSl.mk {s:Nat} {tk:Tok} {xs:List α} {ys:List AV} (h:All2 R xs ys) (hl:xs.length≤9223372036854775807):IsSl R s xs (.list s tk ys):=⟨hl,.inr ⟨tk,ys,rfl,h⟩⟩
theorem IsSl.max {s:Nat} {xs:List α} {y:AV} (h:IsSl R s xs y):xs.length≤9223372036854775807:=h.1
theorem IsSl.len {s:Nat} {xs:List α} {y:AV} (h:IsSl R s xs y):evLen y=some (.int .i64 xs.length):=by
 rcases h with⟨_,⟨rfl,rfl⟩|⟨tk,ys,rfl,h⟩⟩
 ·rfl
 ·simp only[evLen,h.len]
theorem z24 (k:IntKind) (i n:Nat) (h:i<n):idx (.int k i) n=some i:=by
 have h1:(0:Int)≤i∧(i:Int)<n:=by omega
 simp only[idx,h1]
 simp
theorem IsSl.at {s:Nat} {xs:List α} {y:AV} (h:IsSl R s xs y) {i:Nat} (k:IntKind) (hi:i<xs.length):evIaddr s y (.int k i)=some (.ro (nth y i).cells):=by
 rcases h with⟨_,⟨rfl,rfl⟩|⟨tk,ys,rfl,h⟩⟩
 ·simp at hi
 ·obtain⟨h1,_⟩:=h.get i hi
  have hl:=h.len
  simp only[evIaddr,beq_self_eq_true,if_true,z24 k i ys.length (by omega),w1d,h1,w04,nth]
theorem IsSl.nth {s:Nat} {xs:List α} {y:AV} (h:IsSl R s xs y) {i:Nat} (hi:i<xs.length):R xs[i] (nth y i):=by
 rcases h with⟨_,⟨rfl,rfl⟩|⟨tk,ys,rfl,h⟩⟩
 ·simp at hi
 ·exact(h.get i hi).2
theorem IsSl.one {s:Nat} {xs:List α} {y:AV} (h:IsSl R s xs y):y.one=true:=by
 rcases h with⟨_,⟨rfl,rfl⟩|⟨tk,ys,rfl,h⟩⟩<;>rfl
theorem IsSl.mono {S:α→AV→Prop} {s:Nat} {xs:List α} {y:AV} (h:IsSl R s xs y) (k: ∀x y,x∈xs→R x y→S x y):IsSl S s xs y:=by
 rcases h with⟨hm,⟨rfl,rfl⟩|⟨tk,ys,rfl,h⟩⟩
 ·exact .nil s
 ·exact .mk (h.mono k) hm
theorem IsSl.elems {s:Nat} {xs:List α} {y:AV} (h:IsSl R s xs y) (m:Mem): ∃ys,m.elems s y=some ys∧All2 R xs ys:=by
 rcases h with⟨_,⟨rfl,rfl⟩|⟨tk,ys,rfl,h⟩⟩
 ·exact⟨[],rfl,trivial⟩
 ·exact⟨ys,by simp[Mem.elems,elemsOf],h⟩
end
def IsK (k:IntKind) (n:Int) (y:AV):Prop:=y= .int k n
def IsStr (s:List UInt8) (y:AV):Prop:=y= .str s
def IsByte (b:UInt8) (y:AV):Prop:=y= .int .u8 b.toNat
abbrev IsBytes (l:List UInt8) (y:AV):Prop:=IsSl IsByte 1 l y
theorem jm: ∀{l:List UInt8} {ys:List AV},All2 IsByte l ys→bytesOf ys=some l
 | [],[],_=>rfl
 |b::l,y::ys,h=>by
  obtain⟨h1,h2⟩:=h
  rw[h1]
  simp only[bytesOf,byteOf,jm h2]
  simp
 | [],_::_,h=>h.elim
 |_::_,[],h=>h.elim
theorem IsBytes.toStr {l:List UInt8} {y:AV} (m:Mem) (h:IsBytes l y):evToStr m y=some (.str l):=by
 rcases h with⟨_,⟨rfl,rfl⟩|⟨tk,ys,rfl,h⟩⟩
 ·rfl
 ·simp only[evToStr,AV.asArr,evToStr0,jm h,w04]
def Okv (tab:Nat→Option AFunc) (f:Nat) (args:List AV) (m:Mem) (r:AV):Prop:= ∃k,CALL tab f args m=some (r,m.bump k)
theorem Ta {tab:Nat→Option AFunc} {f:Nat} {fn:AFunc} (h:tab f=some fn) {args:List AV} {r:AV} {m:Mem} (hx:X tab fn.body (mk fn.ntmps (.tup []) (numb 0 args)) (enter m) (.fin fn.res m fun v m'=>(∃k,m'=m.bump k)∧v=r)) (hn:args.length≤fn.ntmps:=by exact Nat.le_of_ble_eq_true rfl):
  Okv tab f args m r:=by
 obtain⟨x,h1,⟨k,h2⟩,h3⟩:=vc h hx hn;exact⟨k,by rw[h1,←h2,←h3]⟩
section
variable {α : Type}
end
theorem Okv.all {tab:Nat→Option AFunc} {f:Nat} {args:List AV} {r:AV} (h: ∀m,Okv tab f args m r): ∃K:Mem→Nat,∀m,CALL tab f args m=some (r,m.bump (K m)):=
 ⟨fun m=>(h m).choose,fun m=>(h m).choose_spec⟩
def Own {α:Type} (R:α→AV→Prop) (s:Nat) (y:AV) (xs:List α) (e:List Nat):Prop:=
 (y= .nils∧xs=[])∨ ∃tk ys,y= .list s tk ys∧All2 R xs ys∧(tk= .full∨ ∃t,t∈e∧tk= .id t)
section
variable {α : Type} {R : α → AV → Prop} {s : Nat} {y : AV} {xs cs : List α} {e : List Nat}
theorem Own.nil (e:List Nat):Own R s .nils [] e:= .inl ⟨rfl,rfl⟩
theorem Own.full {ys:List AV} (h:All2 R xs ys) (e:List Nat):Own R s (.list s .full ys) xs e:= .inr ⟨_,_,rfl,h,.inl rfl⟩
theorem Own.mono {e':List Nat} (h:Own R s y xs e) (k: ∀t∈e,t∈e'):Own R s y xs e':=by
 rcases h with h|⟨tk,ys,h1,h2,h3|⟨t,h3,h4⟩⟩
 ·exact .inl h
 ·exact .inr ⟨tk,ys,h1,h2,.inl h3⟩
 ·exact .inr ⟨tk,ys,h1,h2,.inr ⟨t,k t h3,h4⟩⟩
theorem Own.push (ts:List Nat) (h:Own R s y xs e):Own R s y xs (ts++e):=h.mono fun _ h=>w2e _ h
theorem Own.cells (h:Own R s y xs e):y.cells=[y]:=by
 rcases h with⟨rfl,_⟩|⟨tk,ys,rfl,_,_⟩<;>rfl
theorem Own.one (h:Own R s y xs e):y.one=true:=by
 rcases h with⟨rfl,_⟩|⟨tk,ys,rfl,_,_⟩<;>rfl
theorem Own.refs (h:Own R s y xs e) (l:Nat):y.refs l=false:=by
 rcases h with⟨rfl,_⟩|⟨tk,ys,rfl,_,_⟩<;>rfl
theorem Own.len (h:Own R s y xs e):evLen y=some (.int .i64 xs.length):=by
 rcases h with⟨rfl,rfl⟩|⟨tk,ys,rfl,h,_⟩
 ·rfl
 ·simp only[evLen,h.len]
theorem Own.at (h:Own R s y xs e) {i:Nat} (k:IntKind) (hi:i<xs.length):evIaddr s y (.int k i)=some (.ro (nth y i).cells):=by
 rcases h with⟨rfl,rfl⟩|⟨tk,ys,rfl,h,_⟩
 ·simp at hi
 ·obtain⟨h1,_⟩:=h.get i hi
  have hl:=h.len
  simp only[evIaddr,beq_self_eq_true,if_true,z24 k i ys.length (by omega),w1d,h1,w04,nth]
theorem Own.nth (h:Own R s y xs e) {i:Nat} (hi:i<xs.length):R xs[i] (nth y i):=by
 rcases h with⟨rfl,rfl⟩|⟨tk,ys,rfl,h,_⟩
 ·simp at hi
 ·exact(h.get i hi).2
theorem Own.filter (h:Own R s y xs e):Own R s y xs (e.filter fun t=>y.toks.contains t):=by
 rcases h with h|⟨tk,ys,rfl,h2,h3|⟨t,h3,rfl⟩⟩
 ·exact .inl h
 ·exact .inr ⟨tk,ys,rfl,h2,.inl h3⟩
 ·exact .inr ⟨_,ys,rfl,h2,.inr ⟨t,List.mem_filter.2 ⟨h3,by simp[AV.toks]⟩,rfl⟩⟩
theorem Own.elems (h:Own R s y xs e): ∃ys,(∀m:Mem,m.elems s y=some ys)∧All2 R xs ys:=by
 rcases h with⟨rfl,rfl⟩|⟨tk,ys,rfl,h,_⟩
 ·exact⟨[],fun _=>rfl,trivial⟩
 ·exact⟨ys,fun m=>by simp[Mem.elems,elemsOf],h⟩
theorem T5 (ts:List Nat) {pre:List (List Nat)} (hp:pre≠[]) (post:List (List Nat)):pushToks ts (pre++post)=pushToks ts pre++post:=by
 cases pre with
 |nil=>exact absurd rfl hp
 |cons h r=>rw[List.cons_append,xu,xu];rfl
theorem T4 (ts:List Nat) {pre:List (List Nat)} (hp:pre≠[]):(pushToks ts pre).length=pre.length:=by
 cases pre with
 |nil=>exact absurd rfl hp
 |cons h r=>rw[xu];rfl
theorem ji {t:Nat}: ∀{l:List (List Nat)},t∈l.flatten→hasTok t l=true
 | [],h=>by simp at h
 |a::r,h=>by
  simp only[w2b,w07] at h
  simp only[hasTok,w1a]
  rcases h with h|h
  ·exact .inl (by simpa using h)
  ·exact .inr (ji h)
theorem ZG {t:Nat}: ∀{l r:List (List Nat)},t∈l.flatten→dropTok t (l++r)=dropTok t l++r
 | [],_,h=>by simp at h
 |a::l,r,h=>by
  simp only[List.cons_append,dropTok]
  split
  ·rfl
  ·rename_i hc
   simp only[w2b,w07] at h
   rcases h with h|h
   ·exact absurd (by simpa using h) hc
   ·rw[ZG h];rfl
theorem qa (t:Nat): ∀l:List (List Nat),(dropTok t l).length=l.length
 | []=>rfl
 |a::l=>by
  simp only[dropTok]
  split
  ·rfl
  ·simp[qa t l]
def Wr (R:α→AV→Prop) (s i:Nat) (y:AV) (xs:List α) (live post:List (List Nat)):Prop:= ∃pre,live=pre++post∧pre.length=i+1∧Own R s y xs pre.flatten
theorem Own.wr (h:Own R s y xs e) (rest:List (List Nat)):Wr R s 0 y xs (e::rest) rest:=⟨[e],rfl,rfl,by simpa using h⟩
theorem Wr.own {rest:List (List Nat)} {live:List (List Nat)} (h:Wr R s 0 y xs live rest): ∃e,live=e::rest∧Own R s y xs e:=by
 obtain⟨pre,rfl,h2,h3⟩:=h
 match pre,h2 with
 | [e],_=>exact⟨e,rfl,by simpa using h3⟩
theorem Wr.enter {i:Nat} {live post:List (List Nat)} (h:Wr R s i y xs live post):Wr R s (i+1) y xs ([]::live) post:=by
 obtain⟨pre,rfl,h2,h3⟩:=h
 exact⟨[]::pre,rfl,by simp[h2],by simpa using h3⟩
theorem Wr.push {i:Nat} {live post:List (List Nat)} (ts:List Nat) (h:Wr R s i y xs live post):Wr R s i y xs (pushToks ts live) post:=by
 obtain⟨pre,rfl,h2,h3⟩:=h
 have hp:pre≠[]:=by intro h;subst h;simp at h2
 exact⟨pushToks ts pre,T5 ts hp post,by rw[T4 ts hp];exact h2,h3.mono fun t h=>by rw[jf];exact w2e _ h⟩
theorem Own.app {m:Mem} {z:AV} {zs:List AV} {bytes:Nat} (ho:Own R s y xs m.live.flatten) (hz:m.elems s z=some zs) (hc:All2 R cs zs) (hl:(xs.length+cs.length)*bytes≤140737488355328):
  (cs=[]∧evApp m s bytes y z=some (y,m))∨
  (∃ys,All2 R (xs++cs) ys∧evApp m s bytes y z=some (.list s (.id m.nx) ys,{m with nx:=m.nx+1,live:=addTok m.nx m.live}))∨
  (∃t ys tk0,y= .list s (.id t) tk0∧t∈m.live.flatten∧All2 R (xs++cs) ys∧evApp m s bytes y z=some (.list s (.id m.nx) ys,{m with nx:=m.nx+1,live:=addTok m.nx (dropTok t m.live)})):=by
 match zs,hc with
 | [],hc=>
  match cs,hc with
  | [],_=>
   refine .inl ⟨rfl,?_⟩
   unfold evApp;rw[hz]
   rcases ho with⟨rfl,_⟩|⟨tk,ys,rfl,_,_⟩
   ·rfl
   ·simp
  |_::_,hc=>exact hc.elim
 |a::r,hc=>
  refine .inr ?_
  have hn:(a::r).length=cs.length:=hc.len
  rcases ho with⟨rfl,rfl⟩|⟨tk,ys,rfl,h2,h3⟩
  ·refine .inl ⟨a::r,hc,?_⟩
   unfold evApp;rw[hz]
   simp only
   rw[if_pos (by rw[hn];simpa using hl)]
  ·have hb:(ys.length+(a::r).length)*bytes≤140737488355328:=by rw[hn,h2.len];exact hl
   rcases h3 with rfl|⟨t,ht,rfl⟩
   ·refine .inl ⟨ys++a::r,h2.append hc,?_⟩
    unfold evApp;rw[hz]
    simp only[beq_self_eq_true,Bool.true_and,decide_eq_true_eq]
    rw[if_pos hb]
   ·refine .inr ⟨t,ys++a::r,ys,rfl,ht,h2.append hc,?_⟩
    unfold evApp;rw[hz]
    simp only[beq_self_eq_true,Bool.true_and,decide_eq_true_eq]
    rw[if_pos hb,ji ht,if_pos rfl]
theorem XN (t:Nat) {pre:List (List Nat)} (hp:pre≠[]) (post:List (List Nat)):addTok t (pre++post)=addTok t pre++post:=by
 cases pre with
 |nil=>exact absurd rfl hp
 |cons h r=>rfl
theorem XM (t:Nat) {pre:List (List Nat)} (hp:pre≠[]):(addTok t pre).length=pre.length:=by
 cases pre with
 |nil=>exact absurd rfl hp
 |cons h r=>rfl
theorem Wr.app {i:Nat} {live post:List (List Nat)} {z:AV} {zs:List AV} {bytes:Nat} (h:Wr R s i y xs live post) (hz: ∀m:Mem,m.elems s z=some zs) (hc:All2 R cs zs) (hl:(xs.length+cs.length)*bytes≤140737488355328)
  (stk:List (List Blk)) (cur:List Blk) (nx fl:Nat):
  ∃y' n live',evApp ⟨stk,cur,nx,live,fl⟩ s bytes y z=some (y',⟨stk,cur,n,live',fl⟩)∧Wr R s i y' (xs++cs) live' post:=by
 obtain⟨pre,rfl,h2,h3⟩:=h
 have hp:pre≠[]:=by intro h;subst h;simp at h2
 rcases Own.app (m:=⟨stk,cur,nx,pre++post,fl⟩) (h3.mono fun t h=>by simp only[List.flatten_append,w07];exact .inl h) (hz _) hc hl with⟨h,e⟩|⟨ys,q,e⟩|⟨t,ys,q0,hy,_,q,e⟩
 ·exact⟨_,_,_,e,pre,rfl,h2,by subst h;simpa using h3⟩
 ·refine⟨_,_,_,e,addTok nx pre,XN nx hp post,by rw[XM nx hp];exact h2,.inr ⟨_,ys,rfl,q,.inr ⟨nx,?_,rfl⟩⟩⟩
  rw[zO];exact w20
 ·have ht:t∈pre.flatten:=by
   rcases h3 with⟨rfl,_⟩|⟨tk,ys',e1,_,e2|⟨t',e3,e2⟩⟩
   ·cases hy
   ·rw[e1,e2] at hy;cases hy
   ·rw[e1,e2] at hy;injection hy with _ hy _;injection hy with hy;exact hy▸e3
  have hp':dropTok t pre≠[]:=by intro h;have:=qa t pre;rw[h,h2] at this;simp at this
  simp only[ZG ht,XN _ hp'] at e
  refine⟨_,_,_,e,addTok nx (dropTok t pre),rfl,by rw[XM nx hp',qa];exact h2,.inr ⟨_,ys,rfl,q,.inr ⟨nx,?_,rfl⟩⟩⟩
  rw[zO];exact w20
theorem UU {t:Nat}: ∀{j:Nat} {pre:List (List Nat)} (post:List (List Nat)),j<pre.length→addAt t j (pre++post)=addAt t j pre++post
 |0,[],_,h=>by simp at h
 |0,a::r,_,_=>rfl
 |j+1,[],_,h=>by simp at h
 |j+1,a::r,post,h=>by simp only[List.cons_append,addAt];rw[UU post (by simpa using h)]
theorem US {t:Nat}: ∀{j:Nat} {pre:List (List Nat)},j<pre.length→(addAt t j pre).length=pre.length
 |0,[],h=>by simp at h
 |0,a::r,_=>rfl
 |j+1,[],h=>by simp at h
 |j+1,a::r,h=>by simp[addAt,US (by simpa using h)]
theorem UT {t:Nat}: ∀{j:Nat} {pre:List (List Nat)},j<pre.length→t∈(addAt t j pre).flatten∧ ∀u∈pre.flatten,u∈(addAt t j pre).flatten
 |0,[],h=>by simp at h
 |0,a::r,_=>by simp[addAt,addTok];intro u h;exact .inr h
 |j+1,[],h=>by simp at h
 |j+1,a::r,h=>by
  have:=UT (t:=t) (j:=j) (pre:=r) (by simpa using h)
  simp only[addAt,w2b,w07]
  exact⟨.inr this.1,fun u hu=>hu.elim .inl fun hu=> .inr (this.2 u hu)⟩
theorem Wr.sink {i:Nat} {live post:List (List Nat)} (h:Wr R s (i+1) y xs live post): ∃e live',sink (i+1) y.toks live=e::live'∧Wr R s i y xs live' post:=by
 obtain⟨pre,rfl,h2,h3⟩:=h
 match pre,h2 with
 |a::r,h2=>
  have hr:r.length=i+1:=by simpa using h2
  rcases h3 with⟨rfl,rfl⟩|⟨tk,ys,rfl,q,h3⟩
  ·exact⟨a,r++post,rfl,r,rfl,hr,.inl ⟨rfl,rfl⟩⟩
  ·rcases h3 with rfl|⟨t,ht,rfl⟩
   ·exact⟨a,r++post,rfl,r,rfl,hr,.inr ⟨_,ys,rfl,q,.inl rfl⟩⟩
   ·simp only[AV.toks,Vs.sink,sink1,List.cons_append,Nat.add_sub_cancel]
    split
    ·refine⟨_,_,rfl,addAt t i r,UU post (by omega),by rw[US (by omega)];exact hr,.inr ⟨_,ys,rfl,q,.inr ⟨t,(UT (by omega)).1,rfl⟩⟩⟩
    ·rename_i hc
     refine⟨_,_,rfl,r,rfl,hr,.inr ⟨_,ys,rfl,q,.inr ⟨t,?_,rfl⟩⟩⟩
     simp only[w2b,w07] at ht
     rcases ht with ht|ht
     ·exact absurd (by simpa using ht) hc
     ·exact ht
end
section
variable {α : Type} {R : α → AV → Prop} {s : Nat} {xs cs : List α} {tab : Nat → Option AFunc}
variable {stk : List (List Blk)} {cur c' : List Blk} {nx nx' fl fl' : Nat} {live live' : List (List Nat)} {own : List Nat} {y : AV}
theorem yq {m0:Mem} {r:AV} (h1:r.refs (stk++[cur]).length=false) (h2:r.toks=[]):
  leave m0 ⟨stk++[cur],c',nx',own::live',fl'⟩ r=some (r,⟨stk,cur,nx',live',m0.floor⟩):=by
 have e:own.filter (fun _=>false)=[]:=by simp
 unfold leave
 simp only[List.getLast?_append,List.getLast?_singleton,Option.some_or,h1,w0d,if_false,h2,List.contains_nil,e,pushToks,List.dropLast_concat]
variable {ρ : List AV} {m : Mem} {k : Kont} {l : List AOper} {d : Option Nat} {f : Nat} {args : List AV}
end
noncomputable def callNx (tab:Nat→Option AFunc) (f:Nat) (args:List AV) (m:Mem):Nat:=match CALL tab f args m with|some (_,m')=>m'.nx|none=>0
theorem Okv.eq {tab:Nat→Option AFunc} {f:Nat} {args:List AV} {m:Mem} {r:AV} (h:Okv tab f args m r):CALL tab f args m=some (r,m.bump (callNx tab f args m)):=by
 obtain⟨k,h⟩:=h
 rw[h]
 unfold callNx
 rw[h];rfl
section
variable {tab : Nat → Option AFunc} {ρ : List AV} {m : Mem} {k : Kont} {l : List AOper} {d : Option Nat} {op : AOp} {t : Bool} {a b : ACode}
end
attribute [go_sem] allLen
section
variable (L : List Blk) (b c d b' : Blk)
end
structure DField where
 name:List UInt8
 typ:Int
 deriving DecidableEq
def IsField (d:DField) (y:AV):Prop:=y= .agg [.str d.name,.int .i64 d.typ]
theorem IsField.agg {d:DField} {y:AV} (h:IsField d y):takeV true 2 y.cells=some y∧y.cells.length=2:=by
 obtain rfl:=h
 exact⟨rfl,rfl⟩
structure DTyp where
 kind:Int
 elem:Int
 len:Int
 fields:List DField
 deriving DecidableEq
def IsTyp (d:DTyp) (y:AV):Prop:= ∃v0,y= .agg [.int .u8 d.kind,.int .i64 d.elem,.int .i64 d.len,v0]∧IsSl IsField 2 d.fields v0
theorem IsTyp.agg {d:DTyp} {y:AV} (h:IsTyp d y):takeV true 4 y.cells=some y∧y.cells.length=4:=by
 obtain⟨v0,rfl,_⟩:=h
 exact⟨rfl,rfl⟩
structure DInstr where
 op:Int
 a:Int
 b:Int
 c:Int
 deriving DecidableEq
def IsInstr (d:DInstr) (y:AV):Prop:=y= .agg [.int .u8 d.op,.int .i64 d.a,.int .i64 d.b,.int .i64 d.c]
theorem IsInstr.agg {d:DInstr} {y:AV} (h:IsInstr d y):takeV true 4 y.cells=some y∧y.cells.length=4:=by
 obtain rfl:=h
 exact⟨rfl,rfl⟩
structure DRun where
 frm:Int
 value:Int
 deriving DecidableEq
def IsRun (d:DRun) (y:AV):Prop:=y= .agg [.int .i64 d.frm,.int .u64 d.value]
theorem IsRun.agg {d:DRun} {y:AV} (h:IsRun d y):takeV true 2 y.cells=some y∧y.cells.length=2:=by
 obtain rfl:=h
 exact⟨rfl,rfl⟩
structure DFunc where
 name:List UInt8
 params:Int
 result:Int
 slots:List DField
 code:List DInstr
 sizes:List DRun
 lives:List DRun
 deriving DecidableEq
def IsFunc (d:DFunc) (y:AV):Prop:= ∃v0 v1 v2 v3,y= .agg [.str d.name,.int .i64 d.params,.int .i64 d.result,v0,v1,v2,v3]∧IsSl IsField 2 d.slots v0∧IsSl IsInstr 4 d.code v1∧IsSl IsRun 2 d.sizes v2∧IsSl IsRun 2 d.lives v3
theorem IsFunc.agg {d:DFunc} {y:AV} (h:IsFunc d y):takeV true 7 y.cells=some y∧y.cells.length=7:=by
 obtain⟨v0,v1,v2,v3,rfl,_,_,_,_⟩:=h
 exact⟨rfl,rfl⟩
structure DImage where
 types:List DTyp
 texts:List (List UInt8)
 funcs:List DFunc
 deriving DecidableEq
def IsImage (d:DImage) (y:AV):Prop:= ∃v0 v1 v2,y= .agg [v0,v1,v2]∧IsSl IsTyp 4 d.types v0∧IsSl IsStr 1 d.texts v1∧IsSl IsFunc 7 d.funcs v2
theorem IsImage.agg {d:DImage} {y:AV} (h:IsImage d y):takeV true 3 y.cells=some y∧y.cells.length=3:=by
 obtain⟨v0,v1,v2,rfl,_,_,_⟩:=h
 exact⟨rfl,rfl⟩
structure DRegion where
 base:Int
 bytes:List UInt8
 deriving DecidableEq
def IsRegion (d:DRegion) (y:AV):Prop:= ∃v0,y= .agg [.int .u64 d.base,v0]∧IsSl IsByte 1 d.bytes v0
theorem IsRegion.agg {d:DRegion} {y:AV} (h:IsRegion d y):takeV true 2 y.cells=some y∧y.cells.length=2:=by
 obtain⟨v0,rfl,_⟩:=h
 exact⟨rfl,rfl⟩
structure DRoutine where
 status:Int
 code:Int
 sp:Int
 defers:Int
 panics:Int
 key:Int
 deriving DecidableEq
def IsRoutine (d:DRoutine) (y:AV):Prop:=y= .agg [.int .u8 d.status,.int .u64 d.code,.int .u64 d.sp,.int .u64 d.defers,.int .u64 d.panics,.int .i64 d.key]
theorem IsRoutine.agg {d:DRoutine} {y:AV} (h:IsRoutine d y):takeV true 6 y.cells=some y∧y.cells.length=6:=by
 obtain rfl:=h
 exact⟨rfl,rfl⟩
structure DEnded where
 outcome:Int
 failing:Int
 steps:Int
 deriving DecidableEq
def IsEnded (d:DEnded) (y:AV):Prop:=y= .agg [.int .u8 d.outcome,.int .i64 d.failing,.int .i64 d.steps]
theorem IsEnded.agg {d:DEnded} {y:AV} (h:IsEnded d y):takeV true 3 y.cells=some y∧y.cells.length=3:=by
 obtain rfl:=h
 exact⟨rfl,rfl⟩
structure DDump where
 image:DImage
 ended:DEnded
 heap:DRegion
 stacks:List DRegion
 routines:List DRoutine
 defers:List (List Int)
 panics:List (List Int)
 deriving DecidableEq
def IsDump (d:DDump) (y:AV):Prop:= ∃v0 v1 v2 v3 v4 v5 v6 v7,y= .agg [v0,v1,v2,.int .u8 d.ended.outcome,.int .i64 d.ended.failing,.int .i64 d.ended.steps,.int .u64 d.heap.base,v3,v4,v5,v6,v7]∧IsSl IsTyp 4 d.image.types v0∧IsSl IsStr 1 d.image.texts v1∧IsSl IsFunc 7 d.image.funcs v2∧IsSl IsByte 1 d.heap.bytes v3∧IsSl IsRegion 2 d.stacks v4∧IsSl IsRoutine 6 d.routines v5∧IsSl (IsSl (IsK .u64) 1) 1 d.defers v6∧IsSl (IsSl (IsK .u64) 1) 1 d.panics v7
theorem IsDump.agg {d:DDump} {y:AV} (h:IsDump d y):takeV true 12 y.cells=some y∧y.cells.length=12:=by
 obtain⟨v0,v1,v2,v3,v4,v5,v6,v7,rfl,_,_,_,_,_,_,_,_⟩:=h
 exact⟨rfl,rfl⟩
structure DSection where
 kind:Int
 data:List UInt8
 deriving DecidableEq
def IsSection (d:DSection) (y:AV):Prop:= ∃v0,y= .agg [.int .u8 d.kind,v0]∧IsSl IsByte 1 d.data v0
theorem IsSection.agg {d:DSection} {y:AV} (h:IsSection d y):takeV true 2 y.cells=some y∧y.cells.length=2:=by
 obtain⟨v0,rfl,_⟩:=h
 exact⟨rfl,rfl⟩
structure DFrame where
 start:Int
 func:Int
 at_:Int
 code:Int
 size:Int
 mode:Int
 record:Int
 caller:Int
 deriving DecidableEq
def IsFrame (d:DFrame) (y:AV):Prop:=y= .agg [.int .u64 d.start,.int .i64 d.func,.int .i64 d.at_,.int .u64 d.code,.int .i64 d.size,.int .u64 d.mode,.int .u64 d.record,.int .u64 d.caller]
theorem IsFrame.agg {d:DFrame} {y:AV} (h:IsFrame d y):takeV true 8 y.cells=some y∧y.cells.length=8:=by
 obtain rfl:=h
 exact⟨rfl,rfl⟩
def OkT (tab:Nat→Option AFunc) (f:Nat) (args:List AV) (m:Mem) (Q:AV→List Nat→Nat→Prop):Prop:=
 ∃y ts k,CALL tab f args m=some (y,{m with nx:=k,live:=pushToks ts m.live})∧Q y ts k
section
variable {tab : Nat → Option AFunc} {ρ : List AV} {m : Mem} {k : Kont} {l : List AOper} {d : Option Nat} {f : Nat} {args : List AV}
theorem OkT.mono {Q Q':AV→List Nat→Nat→Prop} (h:OkT tab f args m Q) (k: ∀y ts n,Q y ts n→Q' y ts n):OkT tab f args m Q':=let ⟨y,ts,n,h1,h2⟩:=h;⟨y,ts,n,h1,k _ _ _ h2⟩
end
theorem IsSl.refs {α:Type} {R:α→AV→Prop} {s:Nat} {xs:List α} {y:AV} (h:IsSl R s xs y) (l:Nat):y.refs l=false:=by
 rcases h with⟨_,⟨rfl,rfl⟩|⟨tk,ys,rfl,h⟩⟩<;>rfl
theorem z1G {tab:Nat→Option AFunc} {f:Nat} {b:Bool} (h:tab f=some (constFn b)) (m:Mem):CALL tab f [] m=some (.bool b,m):=by
 refine Wo.2 ⟨1,?_⟩
 simp only[callN,callB,h,evFn,constFn,ev,List.length_nil,Nat.sub_self,List.replicate_zero,List.append_nil,evRess,evRes,w1d,w04,w02,List.getElem?_cons_zero,w16,packRes]
 exact Zs m b
end Go.Vs
end
section
namespace Go.Proofs.W
open Go.Vs
set_option linter.unusedSimpArgs false
set_option maxRecDepth 100000
inductive Val where
 |mk (k i:Int) (s:List UInt8) (nl:Bool) (l:List Val) (c:Bool)
mutual
def emb:Val→AV
 | .mk k i s nl l c=> .agg [.int .u8 k,.int .i64 i,.str s,if l.isEmpty&&nl then .nils else .list 5 .none (embs l),.bool c]
def embs:List Val→List AV
 | []=>[]
 |v::r=>emb v::embs r
end
mutual
def wt:Val→Nat
 | .mk _ _ _ _ l _=>1+wts l
def wts:List Val→Nat
 | []=>0
 |v::r=>wt v+wts r
end
theorem kh: ∀l,(embs l).length=l.length
 | []=>rfl
 |v::r=>by simp[embs,kh r]
theorem z08: ∀(l:List Val) (i:Nat) (h:i<l.length),(embs l)[i]? =some (emb l[i])
 |v::r,0,_=>rfl
 |v::r,i+1,h=>by simp only[embs,List.getElem?_cons_succ,List.getElem_cons_succ];exact z08 r i (by simpa using h)
def lst (nl:Bool) (l:List Val):AV:=if l.isEmpty&&nl then .nils else .list 5 .none (embs l)
theorem zS (k i:Int) (s:List UInt8) (nl:Bool) (l:List Val) (c:Bool):emb (.mk k i s nl l c)= .agg [.int .u8 k,.int .i64 i,.str s,lst nl l,.bool c]:=by
 simp only[emb,lst]
theorem v9 (nl:Bool) (l:List Val):evLen (lst nl l)=some (.int .i64 l.length):=by
 unfold lst
 split
 ·rename_i h
  simp only[w03,List.isEmpty_iff] at h
  rw[h.1];rfl
 ·simp[evLen,kh]
theorem kW (nl:Bool) (l:List Val) (i:Nat) (k:IntKind) (h:i<l.length):evIaddr 5 (lst nl l) (.int k i)=some (.ro (emb l[i]).cells):=by
 unfold lst
 split
 ·rename_i hn
  simp only[w03,List.isEmpty_iff] at hn
  rw[hn.1] at h;simp at h
 ·have h1:(0:Int)≤i∧(i:Int)<(embs l).length:=by rw[kh];omega
  simp only[evIaddr,beq_self_eq_true,if_true,idx,h1]
  simp[z08 l i h]
theorem yY (n:Int) (h: -9223372036854775808≤n∧n≤9223372036854775807):IntKind.i64.wrap n=n:=by
 unfold IntKind.wrap
 simp[IntKind.signed,IntKind.bits]
 omega
theorem Yu (l:List Val) (i:Nat) (h:i<l.length):wts (l.take (i+1))=wts (l.take i)+wt l[i]:=by
 induction l generalizing i with
 |nil=>simp at h
 |cons v r ih=>
  cases i with
  |zero=>simp[wts]
  |succ i=>simp[wts,ih i (by simpa using h)];omega
theorem z0N (l:List Val) (i:Nat):wts (l.take i)≤wts l:=by
 induction l generalizing i with
 |nil=>simp[wts]
 |cons v r ih=>
  cases i with
  |zero=>simp[wts]
  |succ i=>simp only[List.take_succ_cons,wts];have:=ih i;omega
mutual
theorem z33: ∀v,1≤wt v
 | .mk _ _ _ _ l _=>by simp only[wt];omega
theorem Ty: ∀l:List Val,l.length≤wts l
 | []=>w0c _
 |v::r=>by simp only[wts,List.length_cons];have:=z33 v;have:=Ty r;omega
end
theorem x7 (v:Val):takeV true 5 (emb v).cells=some (emb v):=by cases v;rfl
theorem vT (v:Val):(emb v).cells.length=5:=by cases v;rfl
mutual
def rch:Val→Nat
 | .mk k _ _ _ l _=>rchs l+(if decide ((l.length:Int)>0)&&(k==4||k==7) then 1 else 0)
def rchs:List Val→Nat
 | []=>0
 |v::r=>max (rch v) (rchs r)
end
mutual
def cutv:Val→Bool
 | .mk _ _ _ _ l c=>cuts l||c
def cuts:List Val→Bool
 | []=>false
 |v::r=>cutv v||cuts r
end
mutual
def okv:Val→Prop
 | .mk _ _ _ _ l _=>l.length≤9223372036854775807∧okvs l
def okvs:List Val→Prop
 | []=>True
 |v::r=>okv v∧okvs r
end
theorem Qv: ∀(l:List Val),okvs l→ ∀x,x∈l→okv x
 | [],_,x,hx=>by cases hx
 |v::r,h,x,hx=>by
  rcases w15.1 hx with e|hx
  ·rw[e];exact h.1
  ·exact Qv r h.2 x hx
mutual
theorem z0Y: ∀v,rch v<wt v
 | .mk k i s nl l c=>by
  simp only[rch,wt]
  have:=Ym l
  cases l with
  |nil=>simp[rchs,wts]
  |cons v r=>have h2:=this.2 (by simp);split<;>omega
theorem Ym: ∀l:List Val,rchs l≤wts l∧(l≠[]→rchs l<wts l)
 | []=>⟨w0c _,fun h=>absurd rfl h⟩
 |v::r=>by
  have h1:=z0Y v
  have h2:=Ym r
  simp only[rchs,wts]
  have:rchs r≤wts r:=h2.1
  constructor<;>intros<;>omega
end
theorem z2h (l:List Val) (i:Nat) (h:i<l.length):rchs (l.take (i+1))=max (rchs (l.take i)) (rch l[i]):=by
 induction l generalizing i with
 |nil=>simp at h
 |cons v r ih=>
  cases i with
  |zero=>simp[rchs]
  |succ i=>simp[rchs,ih i (by simpa using h),Nat.max_assoc]
theorem z2Q (l:List Val) (i:Nat) (h:i<l.length):cuts (l.take (i+1))=(cuts (l.take i)||cutv l[i]):=by
 induction l generalizing i with
 |nil=>simp at h
 |cons v r ih=>
  cases i with
  |zero=>simp[cuts]
  |succ i=>simp[cuts,ih i (by simpa using h),Bool.or_assoc]
theorem z0O (l:List Val) (i:Nat) (h:i<l.length):wt l[i]≤wts l:=by
 have:=Yu l i h
 have:=z0N l (i+1)
 omega
theorem z4m (a b:Nat):(if(b:Int)>(a:Int) then(b:Int) else(a:Int))=((max a b:Nat):Int):=by
 split<;>omega
mutual
theorem w12: ∀(v:Val) (n:Nat),n≤6000→ ∀m,Okv tab zi [emb v,.int .i64 n] m (.int .i64 (min (wt v) (n+1):Nat))
 | .mk kk ii s nl l c=>by
  intro n hn m
  have ih:=w12s l
  obtain⟨K,hK⟩:=skol ih
  refine Ta t8 ?_
  rw[zS]
  obtain⟨stk,cur,nx,live,fl⟩:=m
  simp only[y6,List.map,go_sem,reduceIte,G0,G1,G2,G3,G4,G5]
  refine Yt (α:=Nat×Nat) (fun x σ=>(x.1≤l.length∧x.1≤n+1)∧heads [1,2,5,6] 1 σ=⟨tmps 31 [(1,.int .i64 n),(2,.ptr (stk++[cur]).length 0 nx 0),(5,.int .i64 (min (1+wts (l.take x.1)) (n+1):Nat)),(6,.int .i64 x.1)],
   ⟨stk++[cur],[⟨nx,[.int .u8 kk,.int .i64 ii,.str s,lst nl l,.bool c]⟩],x.2,[]::live,fl⟩⟩) (fun x=>l.length-x.1) (0,nx+1) ?_ ?_
  ·refine⟨⟨w2a _,w2a _⟩,?_⟩
   simp only[go_sem,reduceIte,G0,G1,G2,G3,G4,G5,wts]
   rw[show min 1 (n+1)=1 by omega]
   rfl
  ·rintro⟨i,z⟩ σ ⟨⟨hi,hin⟩,hσ⟩
   rw[hσ]
   dsimp only at hi hin⊢
   simp only[go_sem,reduceIte,G0,G1,G2,G3,G4,G5,v9]
   by_cases h:i<l.length
   ·have hb:=z0O l i h
    have ht:=Yu l i h
    have hlen:=Ty (l.take i)
    rw[w21] at hlen
    have hp:=z33 l[i]
    by_cases hle:min (1+wts (l.take i)) (n+1)≤n
    ·have e2:IntKind.i64.wrap ((i:Int)+1)=((i+1:Nat):Int):=by
      rw[yY _ (by omega)];omega
     have e3:IntKind.i64.wrap ((n:Int)-((min (1+wts (l.take i)) (n+1):Nat):Int))=((n-min (1+wts (l.take i)) (n+1):Nat):Int):=by
      rw[yY _ (by omega)];omega
     have e4:IntKind.i64.wrap (((min (1+wts (l.take i)) (n+1):Nat):Int)+((min (wt l[i]) ((n-min (1+wts (l.take i)) (n+1))+1):Nat):Int))=((min (1+wts (l.take (i+1))) (n+1):Nat):Int):=by
      rw[yY _ (by omega)];omega
     simp only[go_sem,reduceIte,G0,G1,G2,G3,G4,G5,Int.ofNat_lt,Int.ofNat_le,h,hle,kW,x7,v9,e3]
     rw[hK (l[i],n-min (1+wts (l.take i)) (n+1)) ⟨List.getElem_mem h,by dsimp only;omega⟩]
     simp only[go_sem,reduceIte,G0,G1,G2,G3,G4,G5,e2,e4]
     exact⟨(i+1,_),by dsimp only;omega,⟨h,by dsimp only;omega⟩,rfl⟩
    ·simp only[go_sem,reduceIte,G0,G1,G2,G3,G4,G5,Int.ofNat_lt,Int.ofNat_le,h,hle]
     rw[zc rfl rfl,z4]
     refine⟨⟨z,rfl⟩,?_⟩
     simp only[wt]
     rw[show min (1+wts (l.take i)) (n+1)=min (1+wts l) (n+1) by have:=z0N l i;omega]
   ·have:i=l.length:=by omega
    subst this
    simp only[go_sem,reduceIte,G0,G1,G2,G3,G4,G5,Int.ofNat_lt,h]
    rw[zc rfl rfl,z4]
    simp only[List.take_length]
    exact⟨⟨z,rfl⟩,by simp only[wt]⟩
theorem w12s: ∀(l:List Val),∀x:Val×Nat,(x.1∈l∧x.2≤6000)→ ∀m,Okv tab zi [emb x.1,.int .i64 x.2] m (.int .i64 (min (wt x.1) (x.2+1):Nat))
 | []=>fun x hx=>by cases hx.1
 |v::r=>fun x hx=>by
  rcases w15.1 hx.1 with h|h
  ·rw[h];exact w12 v x.2 hx.2
  ·exact w12s r x ⟨h,hx.2⟩
end
def OkB (f:Nat) (args:List AV) (m:Mem):Prop:= ∃p:Bool×Nat,CALL tab f args m=some (.bool p.1,m.bump p.2)
theorem z5h {f:Nat} {fn:AFunc} (h:tab f=some fn) {args:List AV} {m:Mem} (hx:X tab fn.body (mk fn.ntmps (.tup []) (numb 0 args)) (enter m) (.fin fn.res m fun v m'=> ∃p:Bool×Nat,v= .bool p.1∧m'=m.bump p.2)) (hn:args.length≤fn.ntmps:=by exact Nat.le_of_ble_eq_true rfl):OkB f args m:=by
 obtain⟨x,h1,k,h2,h3⟩:=vc h hx hn;exact⟨k,by rw[h1,←h2,←h3]⟩
mutual
theorem w11: ∀(v:Val) (n:Nat),(okv v∧n≤6000)→ ∀m,OkB zn [emb v,.int .i64 n] m
 | .mk kk ii s nl l c=>by
  intro n ⟨ho,hn⟩ m
  have ih:=w11s l
  simp only[okv] at ho
  obtain⟨K,hK⟩:=skol ih
  refine z5h tK ?_
  rw[zS]
  obtain⟨stk,cur,nx,live,fl⟩:=m
  simp only[yh,List.map,go_sem,reduceIte,G0,G1,G2,G3,G4,G5]
  refine Yt (α:=Nat×Nat) (fun x σ=>x.1≤l.length∧heads [1,2,5] 1 σ=⟨tmps 25 [(1,.int .i64 n),(2,.ptr (stk++[cur]).length 0 nx 0),(5,.int .i64 x.1)],
   ⟨stk++[cur],[⟨nx,[.int .u8 kk,.int .i64 ii,.str s,lst nl l,.bool c]⟩],x.2,[]::live,fl⟩⟩) (fun x=>l.length-x.1) (0,nx+1) ?_ ?_
  ·refine⟨w2a _,?_⟩
   simp only[go_sem,reduceIte,G0,G1,G2,G3,G4,G5]
   rfl
  ·rintro⟨i,z⟩ σ ⟨hi,hσ⟩
   rw[hσ]
   dsimp only at hi⊢
   simp only[go_sem,reduceIte,G0,G1,G2,G3,G4,G5,v9]
   by_cases h:i<l.length
   ·have e2:IntKind.i64.wrap ((i:Int)+1)=((i+1:Nat):Int):=by
     rw[yY _ (by omega)];omega
    cases hz:((n:Int)==0)
    ·have hn0:n≠0:=by rintro rfl;simp at hz
     have e3:IntKind.i64.wrap ((n:Int)-1)=((n-1:Nat):Int):=by
      rw[yY _ (by omega)];omega
     simp only[go_sem,reduceIte,G0,G1,G2,G3,G4,G5,Int.ofNat_lt,h,kW,v9,x7,e3,hz]
     rw[hK (l[i],n-1) ⟨List.getElem_mem h,Qv l ho.2 _ (List.getElem_mem h),by dsimp only;omega⟩]
     generalize K (l[i],n-1) _=p
     obtain⟨b,k⟩:=p
     cases b
     ·simp only[go_sem,reduceIte,G0,G1,G2,G3,G4,G5,e2]
      exact⟨(i+1,_),by dsimp only;omega,h,rfl⟩
     ·simp only[go_sem,reduceIte,G0,G1,G2,G3,G4,G5]
      rw[zc rfl rfl,z4]
      exact⟨(_,_),rfl,rfl⟩
    ·simp only[go_sem,reduceIte,G0,G1,G2,G3,G4,G5,Int.ofNat_lt,h,hz]
     rw[zc rfl rfl,z4]
     exact⟨(_,_),rfl,rfl⟩
   ·simp only[go_sem,reduceIte,G0,G1,G2,G3,G4,G5,Int.ofNat_lt,h]
    rw[zc rfl rfl,z4]
    exact⟨(_,_),rfl,rfl⟩
theorem w11s: ∀(l:List Val),∀x:Val×Nat,(x.1∈l∧okv x.1∧x.2≤6000)→ ∀m,OkB zn [emb x.1,.int .i64 x.2] m
 | []=>fun x hx=>by cases hx.1
 |v::r=>fun x hx=>by
  rcases w15.1 hx.1 with h|h
  ·rw[h];exact w11 v x.2 ⟨h▸hx.2.1,hx.2.2⟩
  ·exact w11s r x ⟨h,hx.2⟩
end
def putS (S:List (List Blk)) (l k st:Nat) (cs:List AV):List (List Blk):=S.modify l fun f=>f.set k ⟨st,cs⟩
theorem z3b (S:List (List Blk)) (l k st:Nat) (cs:List AV):(putS S l k st cs).length=S.length:=by simp[putS]
theorem z1V (S:List (List Blk)) (l k st:Nat) (cs:List AV) (l':Nat) (h:l≠l'):(putS S l k st cs).getD l' []=S.getD l' []:=by
 simp[putS,w02,w23,h]
theorem Uo (S:List (List Blk)) (l k st:Nat) (cs cs':List AV):putS (putS S l k st cs) l k st cs'=putS S l k st cs':=by
 refine w2c fun i=> ?_
 simp only[putS,w23]
 cases S[i]? with
 |none=>rfl
 |some f=>simp only[Option.map_eq_map,w04];split<;>simp
theorem vI (S:List (List Blk)) (c:List Blk) (l k st:Nat) (cs:List AV) (h:l<S.length):putS (S++[c]) l k st cs=putS S l k st cs++[c]:=by
 refine w2c fun i=> ?_
 simp only[putS,w23,List.getElem?_append,List.length_modify]
 by_cases hi:i<S.length
 ·simp[hi,w23]
 ·have: ¬l=i:=by omega
  simp[hi,this]
theorem Un (S:List (List Blk)) (l k st:Nat) (cs:List AV) (h:(S.getD l [])[k]? =some ⟨st,cs⟩):putS S l k st cs=S:=by
 refine w2c fun i=> ?_
 simp only[putS,w23]
 by_cases hl:l=i
 ·subst hl
  rw[w02] at h
  cases hs:S[l]? with
  |none=>rfl
  |some f=>
   rw[hs] at h
   simp only[w16] at h
   refine congrArg some ?_
   dsimp only
   rw[if_pos rfl]
   show f.set k ⟨st,cs⟩=f
   refine w2c fun j=> ?_
   rw[List.getElem?_set]
   split
   ·rename_i hj
    subst hj
    rw[h]
    split
    ·rfl
    ·rename_i hlt;rw[w0e (by omega)] at h;cases h
   ·rfl
 ·simp[hl]
theorem z3c (S:List (List Blk)) (l k st:Nat) (cs:List AV) (b:Blk) (h:(S.getD l [])[k]? =some b):((putS S l k st cs).getD l [])[k]? =some ⟨st,cs⟩:=by
 rw[w02] at h
 cases hs:S[l]? with
 |none=>rw[hs] at h;simp at h
 |some f=>
  rw[hs] at h
  simp only[w16] at h
  have hk:k<f.length:=(w05.1 h).1
  simp[putS,w02,w23,hs,hk]
section
variable {A : Type} (fs : Nat) (caps : List AV) (l0 k0 st0 : Nat) (e : A → List AV) (upd : A → Val → Int → A × Int)
def Sees:Prop:= ∀(S:List (List Blk)) (cur:List Blk) (nx:Nat) (live:List (List Nat)) (fl:Nat) (a:A) (v:Val) (r:Int),(S.getD l0 [])[k0]? =some ⟨st0,e a⟩→l0<S.length→fl≤l0→
 ∃k,CALL tab fs (emb v:: .int .i64 r::caps) ⟨S,cur,nx,live,fl⟩=some (.int .i64 (upd a v r).2,⟨putS S l0 k0 st0 (e (upd a v r).1),cur,k,live,fl⟩)
mutual
def go:A→Val→A×Int
 |a,.mk k i s nl l c=>upd (gos (a,0) l).1 (.mk k i s nl l c) (gos (a,0) l).2
def gos:A×Int→List Val→A×Int
 |p,[]=>p
 |p,v::r=>gos ((go p.1 v).1,if(go p.1 v).2>p.2 then(go p.1 v).2 else p.2) r
end
theorem skolS (h:Sees fs caps l0 k0 st0 e upd): ∃K:List (List Blk)→List Blk→Nat→List (List Nat)→Nat→A→Val→Int→Nat,∀(S:List (List Blk)) (cur:List Blk) (nx:Nat) (live:List (List Nat)) (fl:Nat) (a:A) (v:Val) (r:Int),(S.getD l0 [])[k0]? =some ⟨st0,e a⟩→l0<S.length→fl≤l0→
  CALL tab fs (emb v:: .int .i64 r::caps) ⟨S,cur,nx,live,fl⟩=some (.int .i64 (upd a v r).2,⟨putS S l0 k0 st0 (e (upd a v r).1),cur,K S cur nx live fl a v r,live,fl⟩):=by
 classical
 unfold Sees at h
 refine⟨fun S cur nx live fl a v r=>if h1:(S.getD l0 [])[k0]? =some ⟨st0,e a⟩∧l0<S.length∧fl≤l0 then(h S cur nx live fl a v r h1.1 h1.2.1 h1.2.2).choose else 0,fun S cur nx live fl a v r a1 a2 a3=> ?_⟩
 dsimp only
 rw[dif_pos ⟨a1,a2,a3⟩]
 exact(h S cur nx live fl a v r a1 a2 a3).choose_spec
theorem z3I (l:List Val) (i:Nat) (h:i<l.length) (p:A×Int):
  gos upd p (l.take (i+1))=((go upd (gos upd p (l.take i)).1 l[i]).1,if(go upd (gos upd p (l.take i)).1 l[i]).2>(gos upd p (l.take i)).2 then(go upd (gos upd p (l.take i)).1 l[i]).2 else(gos upd p (l.take i)).2):=by
 induction l generalizing i p with
 |nil=>simp at h
 |cons v r ih=>
  cases i with
  |zero=>simp[gos]
  |succ i=>simp only[List.take_succ_cons,gos,List.getElem_cons_succ];exact ih i (by simpa using h) _
variable {lE st1 st2 : Nat}
structure Good (lE st1 st2:Nat) (S:List (List Blk)) (cur:List Blk) (fl:Nat) (a:A):Prop where
 top:lE≤S.length
 low:l0<lE
 flo:fl≤l0
 acc:(S.getD l0 [])[k0]? =some ⟨st0,e a⟩
 self:((S++[cur]).getD lE [])[2]? =some ⟨st2,[.fn (.func zg) [] [.ptr lE 2 st2 0,.ptr lE 1 st1 0]]⟩
 see:((S++[cur]).getD lE [])[1]? =some ⟨st1,[.fn (.func fs) [] caps]⟩
def Each (lE st1 st2:Nat) (v:Val):Prop:= ∀(S:List (List Blk)) (cur:List Blk) (nx:Nat) (live:List (List Nat)) (fl:Nat) (a:A),Good fs caps l0 k0 st0 e lE st1 st2 S cur fl a→
 ∃k,CALL tab zg [emb v,.ptr lE 2 st2 0,.ptr lE 1 st1 0] ⟨S,cur,nx,live,fl⟩=some (.int .i64 (go upd a v).2,⟨putS S l0 k0 st0 (e (go upd a v).1),cur,k,live,fl⟩)
theorem skolE {l:List Val} (h: ∀x,(x∈l∧wt x≤6000)→Each fs caps l0 k0 st0 e upd lE st1 st2 x): ∃K:Val→List (List Blk)→List Blk→Nat→List (List Nat)→Nat→A→Nat,∀x,(x∈l∧wt x≤6000)→ ∀(S:List (List Blk)) (cur:List Blk) (nx:Nat) (live:List (List Nat)) (fl:Nat) (a:A),Good fs caps l0 k0 st0 e lE st1 st2 S cur fl a→
  CALL tab zg [emb x,.ptr lE 2 st2 0,.ptr lE 1 st1 0] ⟨S,cur,nx,live,fl⟩=some (.int .i64 (go upd a x).2,⟨putS S l0 k0 st0 (e (go upd a x).1),cur,K x S cur nx live fl a,live,fl⟩):=by
 classical
 unfold Each at h
 refine⟨fun x S cur nx live fl a=>if h1:(x∈l∧wt x≤6000)∧Good fs caps l0 k0 st0 e lE st1 st2 S cur fl a then(h x h1.1 S cur nx live fl a h1.2).choose else 0,fun x hx S cur nx live fl a hg=> ?_⟩
 dsimp only
 rw[dif_pos ⟨hx,hg⟩]
 exact(h x hx S cur nx live fl a hg).choose_spec
theorem z4P (v:Val):allOne (emb v).cells=true:=by
 cases v
 rw[zS]
 have h: ∀nl l,(lst nl l).one=true:=fun nl l=>by unfold lst;split<;>rfl
 simp only[UM,allOne,h]
 rfl
theorem TE (v:Val):AV.agg (List.take 5 (emb v).cells)=emb v:=by cases v;rfl
mutual
theorem w17 (hs:Sees fs caps l0 k0 st0 e upd): ∀v,wt v≤6000→Each fs caps l0 k0 st0 e upd lE st1 st2 v
 | .mk kk ii s nl l c=>by
  intro hw S cur nx live fl a hg
  obtain⟨K,hK⟩:=skolE fs caps l0 k0 st0 e upd (w17s hs l)
  obtain⟨K',hK'⟩:=skolS fs caps l0 k0 st0 e upd hs
  simp only[wt] at hw
  suffices h:Does tab zg [emb (.mk kk ii s nl l c),.ptr lE 2 st2 0,.ptr lE 1 st1 0] ⟨S,cur,nx,live,fl⟩ (fun v m'=> ∃k,v= .int .i64 (go upd a (.mk kk ii s nl l c)).2∧m'=⟨putS S l0 k0 st0 (e (go upd a (.mk kk ii s nl l c)).1),cur,k,live,fl⟩) by
   obtain⟨x,h1,k,h2,h3⟩:=h;exact⟨k,by rw[h1,←h2,←h3]⟩
  refine vc ZO ?_ (by exact Nat.le_of_ble_eq_true rfl)
  rw[zS]
  have hl0:l0<S.length:=by have:=hg.low;have:=hg.top;omega
  have hne:l0≠lE:=by have:=hg.low;omega
  have g0: ∀a',((putS (S++[cur]) l0 k0 st0 (e a')).getD l0 [])[k0]? =some ⟨st0,e a'⟩:=fun a'=>z3c _ _ _ _ _ ⟨st0,e a⟩ (by
   rw[w02,w08 hl0,←w02];exact hg.acc)
  have gl: ∀a',(putS (S++[cur]) l0 k0 st0 (e a')).length=S.length+1:=fun a'=>by rw[z3b];simp
  have g1: ∀a',(lE==(putS (S++[cur]) l0 k0 st0 (e a')).length)=false:=fun a'=>by rw[gl];have:=hg.top;simp;omega
  have g2: ∀a',((putS (S++[cur]) l0 k0 st0 (e a')).getD lE [])[2]? =some ⟨st2,[.fn (.func zg) [] [.ptr lE 2 st2 0,.ptr lE 1 st1 0]]⟩:=fun a'=>by rw[z1V _ _ _ _ _ _ hne];exact hg.self
  have g3: ∀a',((putS (S++[cur]) l0 k0 st0 (e a')).getD lE [])[1]? =some ⟨st1,[.fn (.func fs) [] caps]⟩:=fun a'=>by rw[z1V _ _ _ _ _ _ hne];exact hg.see
  have g1':(lE==S.length+1)=false:=by have:=hg.top;simp;omega
  have gf: ∀a',fl≤(putS (S++[cur]) l0 k0 st0 (e a')).length:=fun a'=>by rw[gl];have:=hg.flo;omega
  have gS:S++[cur]=putS (S++[cur]) l0 k0 st0 (e a):=(Un _ _ _ _ _ (by
   rw[w02,w08 hl0,←w02];exact hg.acc)).symm
  have gg: ∀a' c',Good fs caps l0 k0 st0 e lE st1 st2 (putS (S++[cur]) l0 k0 st0 (e a')) c' fl a':=fun a' c'=>
   ⟨by rw[gl];have:=hg.top;omega,hg.low,hg.flo,g0 a',by rw[w02,w08 (by rw[gl];have:=hg.top;omega),←w02];exact g2 a',
    by rw[w02,w08 (by rw[gl];have:=hg.top;omega),←w02];exact g3 a'⟩
  simp only[xR,List.map,go_sem,reduceIte,G0,G1,G2,G3,G4,G5,v9]
  rw[gS]
  refine Yt (α:=Nat×Nat) (fun x σ=>x.1≤l.length∧heads [1,2,3,5,9,10,11] 1 σ=⟨tmps 25 [(1,.ptr lE 2 st2 0),(2,.ptr lE 1 st1 0),(3,.ptr (S.length+1) 0 nx 0),(5,.int .i64 (gos upd (a,0) (l.take x.1)).2),(9,lst nl l),(10,.int .i64 l.length),(11,.int .i64 x.1)],
   ⟨putS (S++[cur]) l0 k0 st0 (e (gos upd (a,0) (l.take x.1)).1),[⟨nx,[.int .u8 kk,.int .i64 ii,.str s,lst nl l,.bool c]⟩],x.2,[]::live,fl⟩⟩) (fun x=>l.length-x.1) (0,nx+1) ?_ ?_
  ·refine⟨w2a _,?_⟩
   simp only[go_sem,reduceIte,G0,G1,G2,G3,G4,G5,gos,gl]
   rfl
  ·rintro⟨i,z⟩ σ ⟨hi,hσ⟩
   rw[hσ]
   dsimp only at hi⊢
   simp only[go_sem,reduceIte,G0,G1,G2,G3,G4,G5]
   by_cases h:i<l.length
   ·have hb:=z0O l i h
    have hlen:=Ty l
    have e2:IntKind.i64.wrap ((i:Int)+1)=((i+1:Nat):Int):=by
     rw[yY _ (by omega)];omega
    simp only[go_sem,reduceIte,G0,G1,G2,G3,G4,G5,Int.ofNat_lt,h,kW,x7]
    simp only[go_sem,reduceIte,G0,G1,G2,G3,G4,G5,vT,z4P,gf,x7,TE,g1,g2]
    rw[hK l[i] ⟨List.getElem_mem h,by omega⟩ _ _ _ _ _ _ (gg _ _),Uo]
    simp only[go_sem,reduceIte,G0,G1,G2,G3,G4,G5,e2]
    exact⟨(i+1,_),by dsimp only;omega,h,by dsimp only;rw[z3I upd l i h]⟩
   ·have:i=l.length:=by omega
    subst this
    simp only[go_sem,reduceIte,G0,G1,G2,G3,G4,G5,Int.ofNat_lt,h,List.take_length,g1',g3,gl,←zS kk ii s nl l c]
    rw[hK' _ _ _ _ _ _ _ _ (g0 _) (by rw[gl];omega) hg.flo,Uo]
    simp only[go_sem,reduceIte,G0,G1,G2,G3,G4,G5]
    rw[vI _ _ _ _ _ _ hl0,yq rfl rfl,z4]
    simp only[go]
    exact⟨_,by simp,rfl⟩
theorem w17s (hs:Sees fs caps l0 k0 st0 e upd): ∀(l:List Val),∀x,(x∈l∧wt x≤6000)→Each fs caps l0 k0 st0 e upd lE st1 st2 x
 | []=>fun x hx=>by cases hx.1
 |v::r=>fun x hx=>by
  rcases w15.1 hx.1 with h|h
  ·rw[h];exact w17 hs v (h▸hx.2)
  ·exact w17s hs r x ⟨h,hx.2⟩
end
end
theorem z2j (S:List (List Blk)) (c:List Blk) (k st:Nat) (cs:List AV):putS (S++[c]) S.length k st cs=S++[c.set k ⟨st,cs⟩]:=by
 refine w2c fun i=> ?_
 simp only[putS,w23,List.getElem?_append,Option.map_eq_map]
 by_cases hi:i<S.length
 ·have: ¬S.length=i:=by omega
  simp[hi,this]
 ·by_cases h2:S.length=i
  ·subst h2;simp
  ·have: ¬i-S.length=0:=by omega
   simp[hi,h2]
   have h3:1≤i-S.length:=by omega
   rw[w0e (by simpa using h3),w0e (by simpa using h3)]
theorem Z1 (S:List (List Blk)) (c:List Blk):(S++[c]).getD S.length []=c:=by simp[w02]
theorem YD (S:List (List Blk)) (l k st:Nat) (cs:List AV):(S.modify l fun f=>f.set k ⟨st,cs⟩)=putS S l k st cs:=rfl
def upd14 (a:Int) (_:Val) (_:Int):Int×Int:=(IntKind.i64.wrap (a+1),0)
def upd15 (_:Unit) (v:Val) (r:Int):Unit×Int:=
 match v with
 | .mk k _ _ _ l _=>((),if decide ((l.length:Int)>0)&&(k==4||k==7) then IntKind.i64.wrap (r+1) else r)
def upd16 (a:Bool) (v:Val) (_:Int):Bool×Int:=
 match v with
 | .mk _ _ _ _ _ c=>(a||c,0)
theorem s14 (l0 k0 st0:Nat):Sees yc [.ptr l0 k0 st0 0] l0 k0 st0 (fun n=>[.int .i64 n]) upd14:=by
 intro S cur nx live fl a v r h1 h2 h3
 obtain⟨kk,ii,s,nl,l,c⟩:=v
 suffices h:Does tab yc [emb (.mk kk ii s nl l c),.int .i64 r,.ptr l0 k0 st0 0] ⟨S,cur,nx,live,fl⟩ (fun v m'=> ∃k,v= .int .i64 0∧m'=⟨putS S l0 k0 st0 [.int .i64 (IntKind.i64.wrap (a+1))],cur,k,live,fl⟩) by
  obtain⟨⟨x,y⟩,h1,k,h2,h3⟩:=h;dsimp only at h2 h3;subst h2 h3;exact⟨k,h1⟩
 refine vc jT ?_ (by exact Nat.le_of_ble_eq_true rfl)
 have f1:(l0==(S++[cur]).length)=false:=by simp;omega
 have f2:((S++[cur]).getD l0 [])[k0]? =some ⟨st0,[.int .i64 a]⟩:=by
  rw[w02,w08 h2,←w02];exact h1
 rw[zS]
 simp only[xa,List.map,go_sem,reduceIte,G0,G1,G2,G3,G4,G5,f1,f2,h3,YD,sink]
 rw[vI _ _ _ _ _ _ h2,yq rfl rfl,z4]
 exact⟨_,by simp,rfl⟩
theorem s16 (l0 k0 st0:Nat):Sees xh [.ptr l0 k0 st0 0] l0 k0 st0 (fun b=>[.bool b]) upd16:=by
 intro S cur nx live fl a v r h1 h2 h3
 obtain⟨kk,ii,s,nl,l,c⟩:=v
 suffices h:Does tab xh [emb (.mk kk ii s nl l c),.int .i64 r,.ptr l0 k0 st0 0] ⟨S,cur,nx,live,fl⟩ (fun v m'=> ∃k,v= .int .i64 0∧m'=⟨putS S l0 k0 st0 [.bool (a||c)],cur,k,live,fl⟩) by
  obtain⟨⟨x,y⟩,h1,k,h2,h3⟩:=h;dsimp only at h2 h3;subst h2 h3;exact⟨k,h1⟩
 refine vc Yy ?_ (by exact Nat.le_of_ble_eq_true rfl)
 have f1:(l0==(S++[cur]).length)=false:=by simp;omega
 have f2:((S++[cur]).getD l0 [])[k0]? =some ⟨st0,[.bool a]⟩:=by
  rw[w02,w08 h2,←w02];exact h1
 rw[zS]
 cases a
 ·simp only[xb,List.map,go_sem,reduceIte,G0,G1,G2,G3,G4,G5,f1,f2,h3,YD,sink]
  rw[vI _ _ _ _ _ _ h2,yq rfl rfl,z4]
  exact⟨_,by simp,rfl⟩
 ·simp only[xb,List.map,go_sem,reduceIte,G0,G1,G2,G3,G4,G5,f1,f2,h3,YD,sink]
  rw[vI _ _ _ _ _ _ h2,yq rfl rfl,z4]
  exact⟨_,by simp,rfl⟩
theorem s15 (l0 k0 st0:Nat) (cs:List AV):Sees yu [] l0 k0 st0 (fun _:Unit=>cs) upd15:=by
 intro S cur nx live fl a v r h1 h2 h3
 obtain⟨kk,ii,s,nl,l,c⟩:=v
 rw[Un _ _ _ _ _ h1]
 suffices h:Does tab yu [emb (.mk kk ii s nl l c),.int .i64 r] ⟨S,cur,nx,live,fl⟩ (fun v m'=> ∃k,v= .int .i64 (upd15 a (.mk kk ii s nl l c) r).2∧m'=⟨S,cur,k,live,fl⟩) by
  obtain⟨x,h1,k,h2,h3⟩:=h;exact⟨k,by rw[h1,←h2,←h3]⟩
 refine vc kJ ?_ (by exact Nat.le_of_ble_eq_true rfl)
 rw[zS]
 simp only[xq,List.map,go_sem,reduceIte,G0,G1,G2,G3,G4,G5,v9,upd15]
 cases e1:decide ((l.length:Int)>0)
 ·simp only[go_sem,reduceIte,G0,G1,G2,G3,G4,G5]
  rw[yq rfl rfl,z4]
  exact⟨_,by simp,rfl⟩
 ·cases e2:(kk==4)
  ·cases e3:(kk==7)
   ·simp only[go_sem,reduceIte,G0,G1,G2,G3,G4,G5,e2,e3]
    rw[yq rfl rfl,z4]
    exact⟨_,by simp,rfl⟩
   ·simp only[go_sem,reduceIte,G0,G1,G2,G3,G4,G5,e2,e3]
    rw[yq rfl rfl,z4]
    exact⟨_,by simp,rfl⟩
  ·simp only[go_sem,reduceIte,G0,G1,G2,G3,G4,G5,e2]
   rw[yq rfl rfl,z4]
   exact⟨_,by simp,rfl⟩
section
variable {A : Type} {fs : Nat} {caps : List AV} {k0 st0 : Nat} {e : A → List AV} {upd : A → Val → Int → A × Int}
theorem w13 (v:Val) (hw:wt v≤6000) (S:List (List Blk)) (cur:List Blk) (nx:Nat) (live:List (List Nat)) (fl:Nat) (a:A) (hs:Sees fs caps S.length k0 st0 e upd) (hfl:fl≤S.length) (hc:cur[k0]? =some ⟨st0,e a⟩):
  ∃k,CALL tab zZ [emb v,.fn (.func fs) [] caps] ⟨S,cur,nx,live,fl⟩=some (.int .i64 (go upd a v).2,⟨S,cur.set k0 ⟨st0,e (go upd a v).1⟩,k,live,fl⟩):=by
 obtain⟨kk,ii,s,nl,l,c⟩:=v
 suffices h:Does tab zZ [emb (.mk kk ii s nl l c),.fn (.func fs) [] caps] ⟨S,cur,nx,live,fl⟩ (fun v m'=> ∃k,v= .int .i64 (go upd a (.mk kk ii s nl l c)).2∧m'=⟨S,cur.set k0 ⟨st0,e (go upd a (.mk kk ii s nl l c)).1⟩,k,live,fl⟩) by
  obtain⟨x,h1,k,h2,h3⟩:=h;exact⟨k,by rw[h1,←h2,←h3]⟩
 refine vc Wt ?_ (by exact Nat.le_of_ble_eq_true rfl)
 have f1:fl≤(S++[cur]).length:=by simp;omega
 have hE:=w17 fs caps S.length k0 st0 e upd (lE:=(S++[cur]).length) (st1:=nx+1) (st2:=nx+1+1) hs (.mk kk ii s nl l c) hw (S++[cur])
  [⟨nx,[.int .u8 kk,.int .i64 ii,.str s,lst nl l,.bool c]⟩,⟨nx+1,[.fn (.func fs) [] caps]⟩,⟨nx+1+1,[.fn (.func zg) [] [.ptr (S++[cur]).length 2 (nx+1+1) 0,.ptr (S++[cur]).length 1 (nx+1) 0]]⟩] (nx+1+1+1) ([]::live) fl a
  ⟨w0c _,by simp,hfl,by rw[Z1];exact hc,by rw[Z1];rfl,by rw[Z1];rfl⟩
 obtain⟨k,hk⟩:=hE
 rw[zS] at hk⊢
 simp only[vW,List.map,go_sem,reduceIte,G0,G1,G2,G3,G4,G5,f1]
 rw[hk]
 simp only[go_sem,reduceIte,G0,G1,G2,G3,G4,G5,z2j]
 rw[yq rfl rfl,z4]
 exact⟨_,by simp,rfl⟩
end
mutual
theorem go14: ∀(v:Val) (n:Nat),n+wt v≤6000→go upd14 (n:Int) v=(((n+wt v:Nat):Int),0)
 | .mk k i s nl l c,n,h=>by
  simp only[wt] at h
  simp only[go,wt,gos14 l n (by omega),upd14]
  rw[yY _ (by omega)]
  simp only[Prod.mk.injEq,and_true]
  omega
theorem gos14: ∀(l:List Val) (n:Nat),n+wts l≤6000→gos upd14 ((n:Int),0) l=(((n+wts l:Nat):Int),0)
 | [],n,_=>by simp[gos,wts]
 |v::r,n,h=>by
  simp only[wts] at h
  simp only[gos,wts,go14 v n (by omega)]
  rw[if_neg (by omega),gos14 r (n+wt v) (by omega),w30]
end
mutual
theorem go16: ∀(v:Val) (b:Bool),go upd16 b v=(b||cutv v,0)
 | .mk k i s nl l c,b=>by
  simp only[go,cutv,gos16 l b,upd16,Bool.or_assoc]
theorem gos16: ∀(l:List Val) (b:Bool),gos upd16 (b,0) l=(b||cuts l,0)
 | [],b=>by simp[gos,cuts]
 |v::r,b=>by
  simp only[gos,cuts,go16 v b]
  rw[if_neg (by omega),gos16 r _,Bool.or_assoc]
end
mutual
theorem go15: ∀(v:Val),wt v≤6000→go upd15 () v=((),(rch v:Int))
 | .mk k i s nl l c,h=>by
  have hr:=z0Y (.mk k i s nl l c)
  have hl:=Ym l
  simp only[wt] at h hr
  have:=gos15 l 0 (by omega)
  simp only[Int.natCast_zero,Nat.zero_max] at this
  simp only[go,this,upd15,rch]
  cases e:(decide ((l.length:Int)>0)&&(k==4||k==7))
  ·simp
  ·simp only[if_true]
   rw[yY _ (by omega)]
   simp
theorem gos15: ∀(l:List Val) (n:Nat),wts l≤6000→gos upd15 ((),(n:Int)) l=((),((max n (rchs l):Nat):Int))
 | [],n,_=>by simp[gos,rchs]
 |v::r,n,h=>by
  simp only[wts] at h
  simp only[gos,rchs,go15 v (by omega),z4m]
  rw[gos15 r _ (by omega),Nat.max_assoc]
end
theorem w5 (v:Val) (hw:wt v≤6000) (m:Mem) (hfl:m.floor≤m.stk.length+1):Okv tab zD [emb v] m (.int .i64 (wt v)):=by
 obtain⟨kk,ii,s,nl,l,c⟩:=v
 obtain⟨stk,cur,nx,live,fl⟩:=m
 dsimp only at hfl
 refine Ta ZP ?_
 have hf:fl≤(stk++[cur]).length:=by simp;omega
 obtain⟨k,hk⟩:=w13 (.mk kk ii s nl l c) hw (stk++[cur]) [⟨nx,[.int .u8 kk,.int .i64 ii,.str s,lst nl l,.bool c]⟩,⟨nx+1,[.int .i64 0]⟩] (nx+1+1) ([]::live) fl (0:Int) (s14 (stk++[cur]).length 1 (nx+1)) hf rfl
 have hg:=go14 (.mk kk ii s nl l c) 0 (by omega)
 simp only[Int.natCast_zero,w1f] at hg
 rw[hg,zS] at hk
 rw[zS]
 simp only[xS,List.map,go_sem,reduceIte,G0,G1,G2,G3,G4,G5,hf]
 rw[hk]
 simp only[go_sem,reduceIte,G0,G1,G2,G3,G4,G5]
 rw[zc rfl rfl,z4]
 exact⟨⟨_,rfl⟩,rfl⟩
theorem w9 (v:Val) (hw:wt v≤6000) (m:Mem) (hfl:m.floor≤m.stk.length+1):Okv tab yw [emb v] m (.bool (cutv v)):=by
 obtain⟨kk,ii,s,nl,l,c⟩:=v
 obtain⟨stk,cur,nx,live,fl⟩:=m
 dsimp only at hfl
 refine Ta UW ?_
 have hf:fl≤(stk++[cur]).length:=by simp;omega
 obtain⟨k,hk⟩:=w13 (.mk kk ii s nl l c) hw (stk++[cur]) [⟨nx,[.int .u8 kk,.int .i64 ii,.str s,lst nl l,.bool c]⟩,⟨nx+1,[.bool false]⟩] (nx+1+1) ([]::live) fl false (s16 (stk++[cur]).length 1 (nx+1)) hf rfl
 have hg:=go16 (.mk kk ii s nl l c) false
 simp only[Bool.false_or] at hg
 rw[hg,zS] at hk
 rw[zS]
 simp only[uR,List.map,go_sem,reduceIte,G0,G1,G2,G3,G4,G5,hf]
 rw[hk]
 simp only[go_sem,reduceIte,G0,G1,G2,G3,G4,G5]
 rw[zc rfl rfl,z4]
 exact⟨⟨_,rfl⟩,rfl⟩
theorem w7 (v:Val) (hw:wt v≤6000) (m:Mem) (hfl:m.floor≤m.stk.length+1):Okv tab yn [emb v] m (.int .i64 (rch v)):=by
 obtain⟨kk,ii,s,nl,l,c⟩:=v
 obtain⟨stk,cur,nx,live,fl⟩:=m
 dsimp only at hfl
 refine Ta Yx ?_
 have hf:fl≤(stk++[cur]).length:=by simp;omega
 obtain⟨k,hk⟩:=w13 (.mk kk ii s nl l c) hw (stk++[cur]) [⟨nx,[.int .u8 kk,.int .i64 ii,.str s,lst nl l,.bool c]⟩] (nx+1) ([]::live) fl () (s15 (stk++[cur]).length 0 nx [.int .u8 kk,.int .i64 ii,.str s,lst nl l,.bool c]) hf rfl
 have hg:=go15 (.mk kk ii s nl l c) hw
 rw[hg,zS] at hk
 rw[zS]
 simp only[vy,List.map,go_sem,reduceIte,G0,G1,G2,G3,G4,G5,hf]
 rw[hk]
 simp only[go_sem,reduceIte,G0,G1,G2,G3,G4,G5]
 rw[zc rfl rfl,z4]
 exact⟨⟨_,rfl⟩,rfl⟩
theorem w4 (v:Val) (ho:okv v) (m:Mem): ∃p:Bool×Nat,CALL tab zh [emb v] m=some (.bool p.1,m.bump p.2)∧(p.1=false→wt v≤6000):=by
 obtain⟨K1,h1⟩:=skol (fun(x:Val×Nat) (hx:okv x.1∧x.2≤6000)=>w11 x.1 x.2 hx)
 obtain⟨K2,h2⟩:=skol (fun(x:Val×Nat) (hx:x.2≤6000)=>w12 x.1 x.2 hx)
 suffices h:Does tab zh [emb v] m (fun r m'=> ∃p:Bool×Nat,(r= .bool p.1∧m'=m.bump p.2)∧(p.1=false→wt v≤6000)) by
  obtain⟨⟨x,y⟩,h1,p,⟨h2,h3⟩,h4⟩:=h;dsimp only at h2 h3;subst h2 h3;exact⟨p,h1,h4⟩
 refine vc t7 ?_ (by exact Nat.le_of_ble_eq_true rfl)
 obtain⟨stk,cur,nx,live,fl⟩:=m
 have g1:=h1 (v,200) ⟨ho,Nat.le_of_lt_succ (by dsimp only;omega)⟩
 have g2:=h2 (v,6000) (w0c _)
 simp only at g1 g2
 rw[show((200:Nat):Int)=200 from rfl] at g1
 rw[show((6000:Nat):Int)=6000 from rfl] at g2
 have e1: ∀v,(emb v).cells.length==5:=fun v=>by rw[vT];rfl
 simp only[y5,List.map,go_sem,reduceIte,G0,G1,G2,G3,G4,G5,vT,x7,TE]
 rw[g1]
 generalize K1 (v,200) _=p
 obtain⟨b,k⟩:=p
 cases b
 ·simp only[go_sem,reduceIte,G0,G1,G2,G3,G4,G5,x7,TE]
  rw[g2]
  simp only[go_sem,reduceIte,G0,G1,G2,G3,G4,G5]
  rw[zc rfl rfl,z4]
  refine⟨(_,_),⟨rfl,rfl⟩,fun h=> ?_⟩
  dsimp only at h
  have:=of_decide_eq_false h
  omega
 ·simp only[go_sem,reduceIte,G0,G1,G2,G3,G4,G5]
  rw[zc rfl rfl,z4]
  exact⟨(_,_),⟨rfl,rfl⟩,fun h=>by cases h⟩
theorem z1t (l:List Val) (i:Nat) (h:i<l.length) (c:Bool):(c||cuts (l.take (i+1)))=((c||cuts (l.take i))||cutv l[i]):=by rw[z2Q l i h,Bool.or_assoc]
theorem Wp (v:Val) (ho:okv v) (m:Mem) (hfl:m.floor≤m.stk.length+1): ∃m',CALL tab zf [emb v] m=some (.bool true,m'):=by
 obtain⟨K4,h4⟩: ∃K:Mem→Bool×Nat,∀m,CALL tab zh [emb v] m=some (.bool (K m).1,m.bump (K m).2)∧((K m).1=false→wt v≤6000):=⟨fun m=>(w4 v ho m).choose,fun m=>(w4 v ho m).choose_spec⟩
 have hh: ∀m,(K4 m).1=false→wt v≤6000:=fun m=>(h4 m).2
 have hc4:=fun m=>(h4 m).1
 suffices h:Does tab zf [emb v] m (fun r _=>r= .bool true) by
  obtain⟨⟨x,y⟩,h1,h2⟩:=h;exact⟨y,by rw[h1];exact congrArg some (Prod.ext h2 rfl)⟩
 refine vc xY ?_ (by exact Nat.le_of_ble_eq_true rfl)
 obtain⟨kk,ii,s,nl,l,c⟩:=v
 obtain⟨stk,cur,nx,live,fl⟩:=m
 dsimp only at hfl
 have hf:fl≤(stk++[cur]).length+1:=by simp;omega
 have hal:=fun m=>z1G (b:=true) t9 m
 rw[zS] at hc4⊢
 simp only[zq,List.map,go_sem,reduceIte,G0,G1,G2,G3,G4,G5,hal,hc4]
 generalize hK:K4 _=p
 obtain⟨b,n0⟩:=p
 cases b
 case true=>
  simp only[go_sem,reduceIte,G0,G1,G2,G3,G4,G5]
  rw[zc rfl rfl,z4]
 have hw:=hh _ (by rw[hK])
 have hwt:wt (.mk kk ii s nl l c)=1+wts l:=by simp only[wt]
 have hwl:wts l≤6000:=by omega
 have hlen:=Ty l
 have hW:=fun(x:Val) (hx:wt x≤6000) c z lv=>(w5 x hx ⟨stk++[cur],c,z,lv,fl⟩ hf).eq
 have hC:=fun(x:Val) (hx:wt x≤6000) c z lv=>(w9 x hx ⟨stk++[cur],c,z,lv,fl⟩ hf).eq
 have hR:=fun(x:Val) (hx:wt x≤6000) c z lv=>(w7 x hx ⟨stk++[cur],c,z,lv,fl⟩ hf).eq
 simp only[go_sem,reduceIte,G0,G1,G2,G3,G4,G5]
 refine Yt (α:=Nat) (fun i σ=>i≤l.length∧ ∃z,heads [1,3,4,5,6,7] 1 σ=⟨tmps 88 [(1,.ptr (stk++[cur]).length 0 nx 0),(3,.bool true),(4,.int .i64 (1+wts (l.take i):Nat)),(5,.bool (c||cuts (l.take i))),(6,.int .i64 (rchs (l.take i):Nat)),(7,.int .i64 i)],
  ⟨stk++[cur],[⟨nx,[.int .u8 kk,.int .i64 ii,.str s,lst nl l,.bool c]⟩],z,[]::live,fl⟩⟩) (fun i=>l.length-i) 0 ?_ ?_
 ·refine⟨w2a _,?_⟩
  simp only[go_sem,reduceIte,G0,G1,G2,G3,G4,G5,wts,cuts,rchs,List.take_zero]
  exact⟨_,rfl⟩
 ·rintro i σ ⟨hi,z,hσ⟩
  rw[hσ]
  clear hσ σ
  dsimp only at hi⊢
  simp only[go_sem,reduceIte,G0,G1,G2,G3,G4,G5,v9]
  by_cases h:i<l.length
  ·have hb:=z0O l i h
   have hx:wt l[i]≤6000:=by omega
   have ht:=Yu l i h
   have htl:=z0N l (i+1)
   have e1:IntKind.i64.wrap (((1+wts (l.take i):Nat):Int)+(wt l[i]:Nat))=((1+wts (l.take (i+1)):Nat):Int):=by
    rw[yY _ (by omega),ht];omega
   have e2:IntKind.i64.wrap ((i:Int)+1)=((i+1:Nat):Int):=by
    rw[yY _ (by omega)];omega
   simp only[go_sem,reduceIte,G0,G1,G2,G3,G4,G5,Int.ofNat_lt,h,kW,x7,hW l[i] hx,e1]
   have hcc:=z1t l i h c
   have hmx:(if rchs (l.take i)<rch l[i] then((rch l[i]:Nat):Int) else((rchs (l.take i):Nat):Int))=((rchs (l.take (i+1)):Nat):Int):=by
    rw[z2h l i h];split<;>omega
   cases hacc:(c||cuts (l.take i))
   ·rw[hacc,Bool.false_or] at hcc
    simp only[go_sem,reduceIte,G0,G1,G2,G3,G4,G5,Int.ofNat_lt,h,kW,x7,hC l[i] hx,hR l[i] hx,hmx,e2]
    exact⟨i+1,by omega,h,_,by rw[hcc]⟩
   ·rw[hacc,Bool.true_or] at hcc
    simp only[go_sem,reduceIte,G0,G1,G2,G3,G4,G5,Int.ofNat_lt,h,kW,x7,hC l[i] hx,hR l[i] hx,hmx,e2]
    exact⟨i+1,by omega,h,_,by rw[hcc]⟩
  ·have:i=l.length:=by omega
   subst this
   have hr:=z0Y (.mk kk ii s nl l c)
   have hW':=hW (.mk kk ii s nl l c) hw
   have hC':=hC (.mk kk ii s nl l c) hw
   have hR':=hR (.mk kk ii s nl l c) hw
   have e3:IntKind.i64.wrap ((rchs l:Int)+1)=((rchs l+1:Nat):Int):=by
    have:=Ym l
    rw[yY _ (by omega)];omega
   have hcv:cutv (.mk kk ii s nl l c)=(c||cuts l):=by simp only[cutv];rw[Bool.or_comm]
   have hlt:(((rch (.mk kk ii s nl l c):Nat):Int)<((1+wts l:Nat):Int)):=by rw[hwt] at hr;omega
   rw[zS] at hW' hC' hR'
   simp only[hcv,hwt] at hW' hC'
   simp only[go_sem,reduceIte,G0,G1,G2,G3,G4,G5,Int.ofNat_lt,h,v9,List.take_length,hR',hW',hC',e3]
   by_cases hq:(((rch (.mk kk ii s nl l c):Nat):Int)==((rchs l:Nat):Int))=true
   ·simp only[go_sem,reduceIte,G0,G1,G2,G3,G4,G5,hq,hlt]
    rw[zc rfl rfl,z4]
   ·have hq:(((rch (.mk kk ii s nl l c):Nat):Int)==((rchs l:Nat):Int))=false:=by simpa using hq
    have hne:rch (.mk kk ii s nl l c)≠rchs l:=by
     intro e;rw[e] at hq;simp at hq
    have hpos:(decide ((l.length:Int)>0))=true∧rch (.mk kk ii s nl l c)=rchs l+1:=by
     simp only[rch] at hne⊢
     cases h1:decide ((l.length:Int)>0)
     ·rw[h1] at hne;simp at hne
     ·refine⟨rfl,?_⟩
      rw[h1] at hne
      by_cases h2:(true&&(kk==4||kk==7))=true
      ·rw[if_pos h2]
      ·rw[if_neg h2] at hne;simp at hne
    have hq2:(((rch (.mk kk ii s nl l c):Nat):Int)==((rchs l+1:Nat):Int))=true:=by rw[hpos.2];simp
    simp only[go_sem,reduceIte,G0,G1,G2,G3,G4,G5,hq,e3,hq2,hlt,hpos.1,v9]
    rw[zc rfl rfl,z4]
end Go.Proofs.W
end
