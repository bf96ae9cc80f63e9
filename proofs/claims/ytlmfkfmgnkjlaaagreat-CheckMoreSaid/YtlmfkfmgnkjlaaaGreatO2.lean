/-
  Part 3 of the proof, shared by claims of this seat: R9Code, KVsv, KVsw, KVd, KVb, R9S1, R9S16, R9S17, KDt, R9S18.
-/
import Derived.Test.YtlmfkfmgnkjlaaaGreatO1
import Derived.DataReads
import Derived.Carry
import Derived.ChangeOld
import Derived.ProofKit
set_option maxHeartbeats 64000000
set_option linter.unusedVariables false
set_option linter.unusedSimpArgs false
open Nat renaming reduceEqDiff → G0, reduceBEq → G1, reduceLT → G2, reduceAdd → G3, reduceLeDiff → G4, reduceSub → G5, reduceMul → G6, reduceBNe → G7, le_refl → w0b, zero_le → w0c, mul_one → w15, add_mul → w42
open List renaming getD_eq_getElem?_getD → w00, length_append → w04, getElem?_eq_some_iff → w06, getElem?_append_left → w07, take_length → w09, mem_append → w0a, append_assoc → w0f, mem_singleton → w11, getElem?_eq_getElem → w13, take_succ_eq_append_getElem → w14, mem_cons_of_mem → w18, getElem?_map → w19, append_nil → w1a, eq_nil_of_length_eq_zero → w1b, mem_cons_self → w1c, length_take → w1f, cons_append → w21, drop_zero → w27, length_cons → w29, take_of_length_le → w2f, flatMap_cons → w30, mem_cons → w32, map_cons → w35, mem_append_left → w3c, flatten_cons → w43, getLast?_singleton → w45, mem_append_right → w46, mem_range → w47, getElem?_range → w48, mem_of_getElem? → w49, set_cons_succ → w4d, modify_eq_take_cons_drop → w4e, all_eq_true → w4f, getLast?_append → w51, dropLast_concat → w52, mem_filter → w53, replicate_succ → w54, take_append_of_le_length → w56, set_cons_zero → w59, length_drop → w5a, set_eq_take_append_cons_drop → w5b
open Option renaming map_eq_some_iff → w02, bind_eq_some_iff → w05, map_some → w0d, bind_some → w26
open Bool renaming and_eq_true → w0e, false_eq_true → w28, or_eq_true → w31
section
namespace Go.Proofs.W
open Go.Vs Go.Vs.Z
set_option maxRecDepth 100000
def qb:Nat:=3
def vB:Nat:=9
def xJ:Nat:=10
def zE:Nat:=11
def tL:Nat:=12
def yG:Nat:=13
def qt:Nat:=14
def qs:Nat:=15
def xI:Nat:=16
def xK:Nat:=17
def xN:Nat:=18
def xM:Nat:=19
def tK:Nat:=20
def yw:Nat:=22
def yJ:Nat:=25
def ue:Nat:=26
def yW:Nat:=27
def yC:Nat:=28
def vK:Nat:=29
def vt:Nat:=31
def ji:Nat:=34
def jh:Nat:=36
def uU:Nat:=37
def uV:Nat:=40
def zr:Nat:=41
def xk:Nat:=42
def x4:Nat:=43
def zx:Nat:=44
def xn:Nat:=45
def uW:Nat:=46
def xL:Nat:=47
def vb:Nat:=48
def jE:Nat:=49
def XU:Nat:=50
def ya:Nat:=51
def uY:Nat:=52
def tM:Nat:=53
def xO:Nat:=54
def xj:Nat:=55
def ta:Nat:=58
def zO:Nat:=59
def jS:Nat:=60
def zq:Nat:=61
def yK:Nat:=62
def yo:Nat:=63
def yL:Nat:=64
def vL:Nat:=65
def zC:Nat:=66
def xC:Nat:=69
def tN:Nat:=70
def v8:Nat:=71
def uS:Nat:=73
def zT:Nat:=74
def yU:Nat:=75
def ud:Nat:=76
def uf:Nat:=77
def Ze:Nat:=78
def j9:Nat:=79
def vx:Nat:=80
def XT:Nat:=81
def jD:Nat:=82
def xQ:Nat:=83
def vq:Nat:=84
def tO:Nat:=85
def yq:Nat:=86
def tU:Nat:=87
def t6:Nat:=88
def vw:Nat:=89
def zN:Nat:=90
def zK:Nat:=91
def zu:Nat:=92
def vu:Nat:=93
def x9:Nat:=94
def ym:Nat:=95
def uh:Nat:=96
def qK:Nat:=97
def jR:Nat:=98
def tR:Nat:=99
def yV:Nat:=100
def xB:Nat:=101
def zy:Nat:=102
def xZ:Nat:=103
def xh:Nat:=104
def yQ:Nat:=105
def uT:Nat:=106
def vA:Nat:=107
def xi:Nat:=108
def x7:Nat:=109
def va:Nat:=110
def yZ:Nat:=111
def kA:Nat:=112
def vc:Nat:=113
def zp:Nat:=114
def yH:Nat:=115
def x8:Nat:=116
def vd:Nat:=117
def qr:Nat:=118
def vN:Nat:=119
def t8:Nat:=120
def Uw:Nat:=121
def ug:Nat:=122
def xo:Nat:=123
def Zr:Nat:=124
def ja:Nat:=125
def tZ:Nat:=126
def tP:Nat:=127
def xm:Nat:=128
def xP:Nat:=129
def yE:Nat:=130
def v9:Nat:=131
def yF:Nat:=132
def x5:Nat:=133
def vy:Nat:=134
def zM:Nat:=135
def x6:Nat:=136
def Uv:Nat:=137
def xp:Nat:=138
def yu:Nat:=139
def uR:Nat:=140
def um:Nat:=141
def qq:Nat:=142
def jv:Nat:=143
def yN:Nat:=144
def vQ:Nat:=145
def jC:Nat:=146
def XR:Nat:=147
def jY:Nat:=148
def jF:Nat:=149
def yM:Nat:=150
def Zd:Nat:=151
def uX:Nat:=152
def yD:Nat:=153
def xD:Nat:=154
def XS:Nat:=155
def j8:Nat:=156
def tS:Nat:=157
def ul:Nat:=158
def Y8:Nat:=159
def tQ:Nat:=160
def qp:Nat:=161
def xR:Nat:=162
def zS:Nat:=163
def tT:Nat:=164
def yr:Nat:=165
def qa:Nat:=166
def zQ:Nat:=167
def xW:Nat:=168
def Y7:Nat:=169
def zV:Nat:=170
def ka:Nat:=171
def vM:Nat:=172
def ky:Nat:=173
def zY:Nat:=174
def yy:Nat:=175
def jb:Nat:=181
def Qm:Nat:=184
def j7:Nat:=185
def qw:Nat:=191
def jZ:Nat:=176
def qN:Nat:=177
def jd:Nat:=178
def j6:Nat:=179
def uZ:Nat:=180
def qC:Nat:=182
def jQ:Nat:=183
def xl:Nat:=1000012
def xS:AFunc:=⟨107,[.tmp 2],(g [o 1 (bx 3 0),W 2 kf] (q (g [o 10 (lg 3 1),o 11 (cg vB [10]),o 12 (.un .not (.t 11)),m 13 12,z 14 13 (fa 1 1),z 15 13 (ld 1 14),z 16 13 (le 15),z 17 13 (bi .gtr 16 31),o 18 (pt 13 17),m 19 18,z 20 19 (fa 2 1),z 21 19 (ld 1 20),z 22 19 (le 21),z 23 19 (bi .gtr 22 31),o 24 (pt 19 23),m 25 24,z 26 25 (lg 3 1),z 27 25 (cg xJ [26]),z 28 25 (le 27),z 29 25 (bi .gtr 28 10000),o 30 (pt 25 29)] (c 30 (g [o 31 (cg zE []),m 2 31] r) k)) (g [o 32 (lg 3 1),o 33 (cg xl [32]),o 3 (.alloc [.nils,.nils,.nils]),s 3 3 (.t 33)] (g [o 34 (fa 1 3),o 35 (ld 1 34),o 36 (.lit 1 [(.c (.str [109,111,114,101]))]),o 37 (ap 1 16 35 36),o 38 (fa 1 3),s 1 38 (.t 37)] (g [o 39 (.build [.int .u8 (0),iz,iz,iz] [(0,1,(ku 31))]),o 40 (cg yG []),o 41 (li 4 [39,40]),o 42 (.build [iz,.int .u64 (0)] []),o 43 (li 2 [42]),o 44 (.build [iz,.int .u64 (0)] []),o 45 (li 2 [44]),o 46 (.build [.str [],iz,iz,.nils,.nils,.nils,.nils] [(0,1,(.c (.str [122,122,57]))),(2,1,(ki (-1))),(4,1,(.t 41)),(5,1,(.t 43)),(6,1,(.t 45))]),o 4 (.alloc [.str [],iz,iz,.nils,.nils,.nils,.nils]),s 7 4 (.t 46)] (q (g [V 5 0] (bl 0 (lo [1,3,4,5] (q (g [m 47 5,o 48 (fa 2 1),o 49 (ld 1 48),o 50 (le 49),o 51 (b .lss 47 50)] (c 51 k (e 0))) (q (bl 1 (q (.draw [o 54 (fa 2 1),o 55 (ld 1 54),m 56 5,o 57 (ia 7 55 56),o 58 (fa 0 57),o 59 (ld 1 58),o 60 (fa 0 4),o 61 (ld 1 60),o 62 (b .eql 59 61)]) (c 62 (g [o 63 (cg zE []),m 2 63] r) k))) (p [m 52 5,o 53 (bi .add 52 1),m 5 53])))))) (g [o 64 (fa 2 3),o 65 (ld 1 64),o 66 (lg 7 4),o 67 (li 7 [66]),o 68 (ap 7 128 65 67),o 69 (fa 2 3),s 1 69 (.t 68)] (q (q (q (.frz [3]) (p [o 70 (lg 3 3),o 71 (cg qt [70]),o 72 (bi .neq 71 0)])) (c 72 (g [W 2 kf] r) k)) (g [o 73 (lg 3 3),o 74 (cg xl [73]),o 6 (.alloc [.nils,.nils,.nils]),s 3 6 (.t 74)] (g [o 75 (fa 2 6),o 76 (ld 1 75),o 77 (fa 2 1),o 78 (ld 1 77),o 79 (le 78),o 80 (ia 7 76 79),o 81 (fa 4 80),o 82 (ld 1 81),o 83 (.build [.int .u8 (0),iz,iz,iz] [(0,1,(ku 24))]),o 84 (.iaddr 4 (.t 82) (ki 0)),s 4 84 (.t 83)] (q (q (.frz [6]) (p [o 86 (lg 3 6),o 87 (cg qs [86]),m 85 87,o 88 (ex 85 0),o 89 (ex 85 1),o 90 (ex 85 2),m 7 88,m 8 89,m 9 90])) (g [m 91 9,o 92 (bi .eql 91 16),m 93 92,y 94 93 (mt 7),y 95 93 (fa 2 1),y 96 93 (ld 1 95),y 97 93 (le 96),y 98 93 (b .eql 94 97),o 99 (pf 93 98),m 100 99,y 101 100 (mt 8),y 102 100 (bi .eql 101 0),o 103 (pf 100 102),m 104 103,y 105 104 (cg zE []),o 106 (pf 104 105),m 2 106] r))))))))))))⟩
def Zg:List (List Nat):=[[1,3,4,5],[888888,71,3],[888888,87,6],[777777,33,74]]
def qe:AFunc:=⟨11,[.tmp 2],(g [o 1 (bx 3 0),W 2 kf] (g [o 3 (lg 3 1),o 4 (cg xI [3]),o 5 (.un .not (.t 4)),m 6 5,y 7 6 (lg 3 1),y 8 6 (cg uV [7]),y 9 6 (bi .eql 8 0),o 10 (pf 6 9),m 2 10] r))⟩
def US:List (List Nat):=[]
def uy:AFunc:=⟨148,[.tmp 2],(g [o 1 (bx 3 0),W 2 kn] (g [o 10 (fa 0 1),o 11 (ld 1 10),o 12 (le 11),o 13 (cg zr [12]),m 3 13] (q (g [V 4 0] (bl 0 (lo [1,3,4] (q (g [m 14 4,o 15 (fa 0 1),o 16 (ld 1 15),o 17 (le 16),o 18 (b .lss 14 17)] (c 18 k (e 0))) (q (bl 1 (g [o 21 (fa 0 1),o 22 (ld 1 21),m 23 4,o 24 (ia 4 22 23),o 25 (lg 4 24),o 5 (.alloc [.int .u8 (0),iz,iz,.nils]),s 4 5 (.t 25)] (g [m 26 3,o 27 (fa 0 5),o 28 (ld 1 27),o 29 (li 1 [28]),o 30 (ap 1 1 26 29),m 3 30] (g [o 31 (fa 0 5),o 32 (ld 1 31)] (bl 2 (q (g [o 34 (bu .eql 32 4),m 33 34] (c 33 k (p [o 35 (bu .eql 32 7),m 33 35]))) (c 33 (p [m 36 3,o 37 (fa 1 5),o 38 (ld 1 37),o 39 (cg zr [38]),o 40 (ap 1 1 36 39),m 3 40]) (g [o 42 (bu .eql 32 6),m 41 42] (c 41 (.draw [m 43 3,o 44 (fa 1 5),o 45 (ld 1 44),o 46 (cg zr [45]),o 47 (ap 1 1 43 46),o 48 (fa 2 5),w 49 (ld 1 48),o 50 (cg zr [49]),o 51 (ap 1 1 47 50),m 3 51]) (g [o 53 (bu .eql 32 5),m 52 53] (c 52 (p [m 54 3,o 55 (fa 3 5),o 56 (ld 1 55),o 57 (cg xk [56]),o 58 (ap 1 1 54 57),m 3 58]) k))))))))))) (p [m 19 4,o 20 (bi .add 19 1),m 4 20])))))) (g [m 59 3,o 60 (fa 1 1),o 61 (ld 1 60),o 62 (le 61),o 63 (cg zr [62]),o 64 (ap 1 1 59 63),m 3 64] (q (g [V 6 0] (bl 3 (lo [1,3,6] (q (g [m 65 6,o 66 (fa 1 1),o 67 (ld 1 66),o 68 (le 67),o 69 (b .lss 65 68)] (c 69 k (e 3))) (q (bl 4 (p [m 72 3,o 73 (fa 1 1),o 74 (ld 1 73),m 75 6,o 76 (ia 1 74 75),o 77 (ld 1 76),o 78 (cg x4 [77]),o 79 (ap 1 1 72 78),m 3 79])) (p [m 70 6,o 71 (bi .add 70 1),m 6 71])))))) (g [m 80 3,o 81 (fa 2 1),o 82 (ld 1 81),o 83 (le 82),o 84 (cg zr [83]),o 85 (ap 1 1 80 84),m 3 85] (q (g [V 7 0] (bl 5 (lo [1,3,7] (q (g [m 86 7,o 87 (fa 2 1),o 88 (ld 1 87),o 89 (le 88),o 90 (b .lss 86 89)] (c 90 k (e 5))) (q (bl 6 (g [o 93 (fa 2 1),o 94 (ld 1 93),m 95 7,o 96 (ia 7 94 95),o 97 (lg 7 96),o 8 (.alloc [.str [],iz,iz,.nils,.nils,.nils,.nils]),s 7 8 (.t 97)] (q (.draw [m 98 3,o 99 (fa 0 8),o 100 (ld 1 99),o 101 (cg x4 [100]),o 102 (ap 1 1 98 101),o 103 (fa 1 8),w 104 (ld 1 103),o 105 (cg zr [104]),o 106 (ap 1 1 102 105),m 3 106]) (g [m 107 3,o 108 (fa 2 8),o 109 (ld 1 108),o 110 (cg xn [109]),o 111 (cg zx [110]),o 112 (ap 1 1 107 111),m 3 112] (q (.draw [m 113 3,o 114 (fa 3 8),o 115 (ld 1 114),o 116 (cg xk [115]),o 117 (ap 1 1 113 116),o 118 (fa 4 8),w 119 (ld 1 118),o 120 (le 119),o 121 (cg zr [120]),o 122 (ap 1 1 117 121),m 3 122]) (q (g [V 9 0] (bl 7 (lo [1,3,7,8,9] (q (g [m 123 9,o 124 (fa 4 8),o 125 (ld 1 124),o 126 (le 125),o 127 (b .lss 123 126)] (c 127 k (e 7))) (q (bl 8 (p [m 130 3,o 131 (fa 4 8),o 132 (ld 1 131),m 133 9,o 134 (ia 4 132 133),o 135 (lg 4 134),o 136 (cg uW [135]),o 137 (ap 1 1 130 136),m 3 137])) (p [m 128 9,o 129 (bi .add 128 1),m 9 129])))))) (.draw [m 138 3,o 139 (fa 5 8),o 140 (ld 1 139),o 141 (cg xL [140]),o 142 (ap 1 1 138 141),o 143 (fa 6 8),w 144 (ld 1 143),o 145 (cg xL [144]),o 146 (ap 1 1 142 145),m 3 146]))))))) (p [m 91 7,o 92 (bi .add 91 1),m 7 92])))))) (g [m 147 3,m 2 147] r))))))))⟩
def WE:List (List Nat):=[[1,3,4],[1,3,6],[1,3,7],[1,3,7,8,9]]
def V7:AFunc:=⟨9,[.tmp 0],(g [W 0 kf] (g [o 1 (.build [.int .u8 (0),iz,iz,iz] [(0,1,(ku 24))]),o 2 (cg jh [1]),o 3 (cf ji [(.t 2),(ki 0),(ki 0),(ki 0)]),m 4 3,y 5 4 (.build [.int .u8 (0),iz,iz,iz] [(0,1,(ku 31))]),y 6 4 (cg jh [5]),y 7 4 (cf ji [(.t 6),(ki 0),(ki (-1)),(ki 36)]),o 8 (pf 4 7),m 0 8] r))⟩
def WT:List (List Nat):=[]
def tz:AFunc:=⟨53,[.cell 2 true 3],(g [o 1 (bx 3 0),o 2 (.alloc [.nils,.nils,.nils])] (q (.draw [o 3 (.alloc [.nils,.nils,.nils]),o 6 (fa 0 1),o 7 (ld 1 6),o 8 (cg vb [7]),o 9 (li 1 []),o 10 (fa 1 1),w 11 (ld 1 10),o 12 (ap 1 16 9 11),o 13 (.build [.nils,.nils,.nils] [(0,1,(.t 8)),(1,1,(.t 12))]),s 3 3 (.t 13)]) (q (g [V 4 0] (bl 0 (lo [1,2,3,4] (q (g [m 14 4,o 15 (fa 2 1),o 16 (ld 1 15),o 17 (le 16),o 18 (b .lss 14 17)] (c 18 k (e 0))) (q (bl 1 (g [o 21 (fa 2 1),o 22 (ld 1 21),m 23 4,o 24 (ia 7 22 23),o 25 (lg 7 24),o 5 (.alloc [.str [],iz,iz,.nils,.nils,.nils,.nils]),s 7 5 (.t 25)] (g [o 26 (li 2 []),o 27 (fa 3 5),o 28 (ld 1 27),o 29 (ap 2 24 26 28),o 30 (fa 3 5),s 1 30 (.t 29)] (g [o 31 (li 4 []),o 32 (fa 4 5),o 33 (ld 1 32),o 34 (ap 4 32 31 33),o 35 (fa 4 5),s 1 35 (.t 34)] (g [o 36 (li 2 []),o 37 (fa 5 5),o 38 (ld 1 37),o 39 (ap 2 16 36 38),o 40 (fa 5 5),s 1 40 (.t 39)] (g [o 41 (li 2 []),o 42 (fa 6 5),o 43 (ld 1 42),o 44 (ap 2 16 41 43),o 45 (fa 6 5),s 1 45 (.t 44)] (p [o 46 (fa 2 3),o 47 (ld 1 46),o 48 (lg 7 5),o 49 (li 7 [48]),o 50 (ap 7 128 47 49),o 51 (fa 2 3),s 1 51 (.t 50)]))))))) (p [m 19 4,o 20 (bi .add 19 1),m 4 20])))))) (g [o 52 (lg 3 3),s 3 2 (.t 52)] r))))⟩
def VS:List (List Nat):=[[1,2,3,4]]
def qf:AFunc:=⟨2,[.cell 0 true 4],(g [o 0 (.alloc [.int .u8 (0),iz,iz,iz])] (g [o 1 (.build [.int .u8 (0),iz,iz,iz] [(0,1,(ku 34)),(1,1,(ki (-1)))]),s 4 0 (.t 1)] r))⟩
def UT:List (List Nat):=[]
def Y6:AFunc:=⟨13,[.tmp 2],(g [o 1 (bx 3 0),V 2 0] (g [o 7 (lg 3 1),o 8 (cg qs [7]),m 6 8,o 9 (ex 6 0),o 10 (ex 6 1),o 11 (ex 6 2),m 3 9,m 4 10,m 5 11] (g [m 12 5,m 2 12] r)))⟩
def z39:List (List Nat):=[]
def Y5:AFunc:=⟨55,[.tmp 2,.tmp 3,.tmp 4],(g [o 1 (bx 3 0),V 2 0,V 3 0,V 4 0] (q (g [o 9 (lg 3 1),o 10 (cg jE [9]),m 5 10] (g [m 11 5,o 12 (bi .neq 11 0)] (c 12 (g [m 13 5,V 2 0,V 3 0,m 4 13] r) k))) (q (g [o 14 (fa 2 1),o 15 (ld 1 14),o 16 (le 15),V 17 0] (bl 0 (lo [1,15,16,17] (g [o 18 (b .lss 17 16)] (q (c 18 k (e 0)) (q (bl 1 (g [m 19 17,o 20 (ia 7 15 17),o 21 (lg 7 20),o 7 (.alloc [.str [],iz,iz,.nils,.nils,.nils,.nils]),m 6 19,s 7 7 (.t 21)] (g [o 22 (lg 3 1),m 23 6,o 24 (cg XU [22,23]),o 8 (.alloc [.nils,.nils,iz,iz]),s 4 8 (.t 24)] (q (g [o 25 (fa 3 8),o 26 (ld 1 25),o 27 (bi .eql 26 0),m 28 27,y 29 28 (fa 0 8),y 30 28 (ld 1 29),y 31 28 (fa 5 7),y 32 28 (ld 1 31),y 33 28 (cg ya [30,32]),y 34 28 (.un .not (.t 33)),y 35 28 (mt 34),z 36 35 (fa 1 8),z 37 35 (ld 1 36),z 38 35 (fa 6 7),z 39 35 (ld 1 38),z 40 35 (cg ya [37,39]),z 41 35 (.un .not (.t 40)),y 42 28 (pt 35 41),o 43 (pf 28 42)] (c 43 (p [o 44 (fa 2 8),s 1 44 (ki (-1)),o 45 (fa 3 8),s 1 45 (ki 32)]) k)) (g [o 46 (fa 3 8),o 47 (ld 1 46),o 48 (bi .neq 47 0)] (c 48 (q (.draw [m 49 6,o 50 (fa 2 8),o 51 (ld 1 50),o 52 (fa 3 8),o 53 (ld 1 52),m 2 49,m 3 51,m 4 53]) r) k)))))) (p [o 54 (bi .add 17 1),m 17 54]))))))) (g [V 2 0,V 3 0,V 4 0] r))))⟩
def z38:List (List Nat):=[[1,15,16,17]]
def ux:AFunc:=⟨101,[.tmp 2],(g [o 1 (bx 3 0),W 2 kf] (q (g [o 8 (fa 0 1),o 9 (ld 1 8),o 10 (cg uY [9]),m 11 10,z 12 11 (fa 1 1),z 13 11 (ld 1 12),z 14 11 (le 13),z 15 11 (bi .gtr 14 40),o 16 (pt 11 15),m 17 16,z 18 17 (fa 2 1),z 19 17 (ld 1 18),z 20 17 (le 19),z 21 17 (bi .gtr 20 40),o 22 (pt 17 21)] (c 22 (g [W 2 kt] r) k)) (q (g [V 3 0] (bl 0 (lo [1,3] (q (g [m 23 3,o 24 (fa 1 1),o 25 (ld 1 24),o 26 (le 25),o 27 (b .lss 23 26)] (c 27 k (e 0))) (q (bl 1 (g [o 30 (fa 1 1),o 31 (ld 1 30),m 32 3,o 33 (ia 1 31 32),o 34 (ld 1 33),o 35 (.lenS (.t 34)),o 36 (bi .gtr 35 100)] (c 36 (g [W 2 kt] r) k))) (p [m 28 3,o 29 (bi .add 28 1),m 3 29])))))) (g [V 4 0] (q (g [V 5 0] (bl 2 (lo [1,4,5] (q (g [m 37 5,o 38 (fa 2 1),o 39 (ld 1 38),o 40 (le 39),o 41 (b .lss 37 40)] (c 41 k (e 2))) (q (bl 3 (g [o 44 (fa 2 1),o 45 (ld 1 44),m 46 5,o 47 (ia 7 45 46),o 48 (lg 7 47),o 6 (.alloc [.str [],iz,iz,.nils,.nils,.nils,.nils]),s 7 6 (.t 48)] (g [m 49 4,o 50 (fa 4 6),o 51 (ld 1 50),o 52 (le 51),o 53 (b .add 49 52),m 4 53] (q (g [o 54 (fa 0 6),o 55 (ld 1 54),o 56 (.lenS (.t 55)),o 57 (bi .gtr 56 100),m 58 57,z 59 58 (fa 3 6),z 60 58 (ld 1 59),z 61 58 (le 60),z 62 58 (bi .gtr 61 20),o 63 (pt 58 62),m 64 63,z 65 64 (fa 4 6),z 66 64 (ld 1 65),z 67 64 (le 66),z 68 64 (bi .gtr 67 210),o 69 (pt 64 68),m 70 69,z 71 70 (fa 5 6),z 72 70 (ld 1 71),z 73 70 (le 72),z 74 70 (bi .gtr 73 210),o 75 (pt 70 74),m 76 75,z 77 76 (fa 6 6),z 78 76 (ld 1 77),z 79 76 (le 78),z 80 76 (bi .gtr 79 210),o 81 (pt 76 80),m 82 81,z 83 82 (mt 4),z 84 82 (bi .gtr 83 1000),o 85 (pt 82 84)] (c 85 (g [W 2 kt] r) k)) (g [V 7 0] (bl 4 (lo [1,4,5,6,7] (q (g [m 86 7,o 87 (fa 3 6),o 88 (ld 1 87),o 89 (le 88),o 90 (b .lss 86 89)] (c 90 k (e 4))) (q (bl 5 (g [o 93 (fa 3 6),o 94 (ld 1 93),m 95 7,o 96 (ia 2 94 95),o 97 (fa 0 96),o 98 (ld 1 97),o 99 (.lenS (.t 98)),o 100 (bi .gtr 99 100)] (c 100 (g [W 2 kt] r) k))) (p [m 91 7,o 92 (bi .add 91 1),m 7 92])))))))))) (p [m 42 5,o 43 (bi .add 42 1),m 5 43])))))) (g [W 2 kf] r))))))⟩
def WD:List (List Nat):=[[1,3],[1,4,5],[1,4,5,6,7]]
def xG:AFunc:=⟨10,[.tmp 2],(g [o 1 (bx 3 0),V 2 0] (q (g [o 3 (lg 3 1),o 4 (cg tM [3]),o 5 (.un .not (.t 4))] (c 5 (g [V 2 8] r) k)) (q (g [o 6 (lg 3 1),o 7 (cg xJ [6]),o 8 (le 7),o 9 (bi .gtr 8 20000)] (c 9 (g [V 2 4] r) k)) (g [V 2 0] r))))⟩
def WF:List (List Nat):=[]
def uB:AFunc:=⟨58,[.tmp 2],(g [V 2 0] (q (g [m 5 0,o 6 (le 5),o 7 (bi .lss 6 1),m 8 7,z 9 8 (mt 0),z 10 8 (le 9),z 11 8 (bi .gtr 10 200),o 12 (pt 8 11)] (c 12 (g [V 2 8] r) k)) (q (g [V 3 0] (bl 0 (lo [0,3] (q (g [m 13 3,m 14 0,o 15 (le 14),o 16 (b .lss 13 15)] (c 16 k (e 0))) (q (bl 1 (g [m 19 0,m 20 3,o 21 (ia 4 19 20),o 22 (lg 4 21),o 4 (.alloc [.int .u8 (0),iz,iz,iz]),s 4 4 (.t 22)] (g [o 23 (lg 4 4),o 24 (cg xO [23]),o 25 (bi .neq 24 0),m 26 25,z 27 26 (fa 0 4),z 28 26 (ld 1 27),z 29 26 (bu .eql 28 22),z 30 26 (mt 29),y 31 30 (fa 1 4),y 32 30 (ld 1 31),y 33 30 (mt 0),y 34 30 (le 33),y 35 30 (b .geq 32 34),z 36 26 (pf 30 35),o 37 (pt 26 36),m 38 37,z 39 38 (fa 0 4),z 40 38 (ld 1 39),z 41 38 (bu .eql 40 23),z 42 38 (mt 41),y 43 42 (fa 2 4),y 44 42 (ld 1 43),y 45 42 (mt 0),y 46 42 (le 45),y 47 42 (b .geq 44 46),z 48 38 (pf 42 47),o 49 (pt 38 48)] (c 49 (g [V 2 8] r) k)))) (p [m 17 3,o 18 (bi .add 17 1),m 3 18])))))) (q (g [m 50 0,m 51 0,o 52 (le 51),o 53 (bi .sub 52 1),o 54 (ia 4 50 53),o 55 (lg 4 54),o 56 (.build [.int .u8 (0),iz,iz,iz] [(0,1,(ku 34)),(1,1,(ki (-1)))]),o 57 (.ext (.eqA true 4 [(0,1),(1,1),(2,1),(3,1)] (.t 55) (.t 56)))] (c 57 (g [V 2 8] r) k)) (g [V 2 0] r)))))⟩
def WI:List (List Nat):=[[0,3]]
def uA:AFunc:=⟨6,[.tmp 2],(g [o 2 (v (.c (.int .u64 (0))))] (g [m 3 0,o 4 (.bin .shl (.c (.int .u64 (1))) (.t 3)),o 5 (.bin .sub (.t 4) (.c (.int .u64 (1)))),m 2 5] r))⟩
def WH:List (List Nat):=[]
def tw:AFunc:=⟨60,[.tmp 6],(g [o 3 (bx 3 0),o 5 (bx 4 2),W 6 kf] (g [o 13 (lg 4 5),o 14 (cg yw [13]),m 12 14,o 15 (ex 12 0),o 16 (ex 12 1),m 7 15,m 8 16] (g [o 17 (li 1 []),m 18 7,o 19 (ap 1 8 17 18),m 20 8,o 21 (ap 1 8 19 20),m 9 21] (q (g [V 10 0] (bl 0 (lo [1,3,5,9,10] (q (g [m 22 10,m 23 9,o 24 (le 23),o 25 (b .lss 22 24)] (c 25 k (e 0))) (q (bl 1 (q (.draw [m 28 9,m 29 10,o 30 (ia 1 28 29),o 31 (ld 1 30),o 32 (fa 2 3),o 33 (ld 1 32),m 34 1,o 35 (ia 7 33 34),o 36 (fa 3 35),o 37 (ld 1 36),o 38 (le 37),o 39 (b .geq 31 38)]) (c 39 (g [W 6 kf] r) k))) (p [m 26 10,o 27 (bi .add 26 1),m 10 27])))))) (g [o 40 (lg 4 5),o 41 (cg xj [40]),m 11 41] (g [m 42 11,o 43 (fa 2 3),o 44 (ld 1 43),o 45 (le 44),o 46 (b .lss 42 45),m 47 46,y 48 47 (fa 0 5),y 49 47 (ld 1 48),y 50 47 (bu .neq 49 2),y 51 47 (mt 50),z 52 51 (fa 2 5),z 53 51 (ld 1 52),z 54 51 (fa 1 3),z 55 51 (ld 1 54),z 56 51 (le 55),z 57 51 (b .lss 53 56),y 58 47 (pt 51 57),o 59 (pf 47 58),m 6 59] r))))))⟩
def VR:List (List Nat):=[[1,3,5,9,10]]
def vF:AFunc:=⟨64,[.tmp 2,.tmp 3],(g [o 1 (bx 4 0),W 2 kn,W 3 kn] (g [W 4 kn,W 5 kn] (q (.draw [o 7 (.alloc [iz,iz,iz]),o 9 (fa 0 1),o 10 (ld 1 9),o 11 (cg yK [10]),w 12 (lg 4 1),o 13 (cg yo [12]),m 6 11,s 3 7 (.t 13)]) (q (g [V 8 0] (bl 0 (lo [4,5,6,7,8] (q (g [m 14 8,o 15 (bi .lss 14 3)] (c 15 k (e 0))) (q (bl 1 (q (g [m 18 6,m 19 8,o 20 (.indexS (.t 18) (.t 19)),o 21 (bu .eql 20 114),m 22 21,z 23 22 (mt 6),z 24 22 (mt 8),z 25 22 (.indexS (.t 23) (.t 24)),z 26 22 (bu .eql 25 101),o 27 (pt 22 26),m 28 27,y 29 28 (mt 8),y 30 28 (.iaddrA 3 1 (.t 7) (.t 29)),y 31 28 (ld 1 30),y 32 28 (bi .geq 31 0),o 33 (pf 28 32)] (c 33 (p [m 34 4,m 35 8,o 36 (.iaddrA 3 1 (.t 7) (.t 35)),o 37 (ld 1 36),o 38 (li 1 [37]),o 39 (ap 1 8 34 38),m 4 39]) k)) (g [m 40 6,m 41 8,o 42 (.indexS (.t 40) (.t 41)),o 43 (bu .eql 42 119),m 44 43,z 45 44 (mt 6),z 46 44 (mt 8),z 47 44 (.indexS (.t 45) (.t 46)),z 48 44 (bu .eql 47 103),o 49 (pt 44 48),m 50 49,y 51 50 (mt 8),y 52 50 (.iaddrA 3 1 (.t 7) (.t 51)),y 53 50 (ld 1 52),y 54 50 (bi .geq 53 0),o 55 (pf 50 54)] (c 55 (p [m 56 5,m 57 8,o 58 (.iaddrA 3 1 (.t 7) (.t 57)),o 59 (ld 1 58),o 60 (li 1 [59]),o 61 (ap 1 8 56 60),m 5 61]) k)))) (p [m 16 8,o 17 (bi .add 16 1),m 8 17])))))) (g [m 62 4,m 63 5,m 2 62,m 3 63] r)))))⟩
def Yp:List (List Nat):=[[4,5,6,7,8]]
def uw:AFunc:=⟨32,[.tmp 4],(g [o 2 (bx 3 0),V 4 0] (g [o 10 (fa 0 2),o 11 (ld 1 10),o 12 (cg yL [11]),m 9 12,o 13 (ex 9 0),o 14 (ex 9 1),m 5 13,m 6 14] (g [V 7 0] (q (g [V 8 0] (bl 0 (lo [1,5,7,8] (q (g [m 15 8,m 16 1,o 17 (le 16),o 18 (b .lss 15 17)] (c 18 k (e 0))) (q (bl 1 (p [m 21 7,m 22 5,m 23 1,m 24 8,o 25 (ia 1 23 24),o 26 (ld 1 25),o 27 (ia 1 22 26),o 28 (ld 1 27),o 29 (cg vL [28]),o 30 (b .add 21 29),m 7 30])) (p [m 19 8,o 20 (bi .add 19 1),m 8 20])))))) (g [m 31 7,m 4 31] r)))))⟩
def WC:List (List Nat):=[[1,5,7,8]]
def yA:AFunc:=⟨47,[.tmp 6,.tmp 7],(g [o 3 (bx 3 0),o 5 (bx 4 2),W 6 kn,V 7 0] (q (g [o 11 (fa 0 5),o 12 (ld 1 11),o 13 (bu .eql 12 24)] (c 13 (g [o 14 (lg 3 3),m 15 1,o 16 (fa 1 5),o 17 (ld 1 16),o 18 (cg zC [14,15,17]),W 6 kn,m 7 18] r) k)) (g [W 8 kn] (q (g [o 19 (lg 4 5),o 20 (cg xj [19]),m 9 20] (g [m 21 9,o 22 (bi .geq 21 0)] (c 22 (g [V 10 0] (bl 0 (lo [3,8,9,10] (q (g [m 23 10,o 24 (fa 2 3),o 25 (ld 1 24),m 26 9,o 27 (ia 7 25 26),o 28 (fa 1 27),o 29 (ld 1 28),o 30 (b .lss 23 29)] (c 30 k (e 0))) (q (bl 1 (p [m 33 8,o 34 (fa 2 3),o 35 (ld 1 34),m 36 9,o 37 (ia 7 35 36),o 38 (fa 3 37),o 39 (ld 1 38),m 40 10,o 41 (ia 2 39 40),o 42 (fa 1 41),o 43 (ld 1 42),o 44 (li 1 [43]),o 45 (ap 1 8 33 44),m 8 45])) (p [m 31 10,o 32 (bi .add 31 1),m 10 32])))))) k))) (g [m 46 8,m 6 46,V 7 (-1)] r)))))⟩
def X7:List (List Nat):=[[3,8,9,10]]
def vk:AFunc:=⟨26,[.tmp 4],(g [W 4 kf] (q (g [m 6 0,o 7 (le 6),m 8 1,o 9 (le 8),o 10 (b .neq 7 9)] (c 10 (g [W 4 kf] r) k)) (q (g [V 5 0] (bl 0 (lo [0,1,5] (q (g [m 11 5,m 12 0,o 13 (le 12),o 14 (b .lss 11 13)] (c 14 k (e 0))) (q (bl 1 (q (.draw [m 17 0,m 18 5,o 19 (ia 1 17 18),o 20 (ld 1 19),m 21 1,m 22 5,o 23 (ia 1 21 22),o 24 (ld 1 23),o 25 (b .neq 20 24)]) (c 25 (g [W 4 kf] r) k))) (p [m 15 5,o 16 (bi .add 15 1),m 5 16])))))) (g [W 4 kt] r))))⟩
def ZN:List (List Nat):=[[0,1,5]]
def u4:AFunc:=⟨45,[.tmp 4],(g [W 4 kn] (g [m 6 0,m 7 1,o 8 (ia 4 6 7),o 9 (lg 4 8),o 5 (.alloc [.int .u8 (0),iz,iz,iz]),s 4 5 (.t 9)] (q (g [o 10 (fa 0 5),o 11 (ld 1 10)] (bl 0 (q (g [o 13 (bu .eql 11 34),m 12 13] (c 12 k (g [o 14 (bu .eql 11 28),m 12 14] (c 12 k (p [o 15 (bu .eql 11 30),m 12 15]))))) (c 12 (g [W 4 kn] r) (g [o 17 (bu .eql 11 22),m 16 17] (c 16 (g [o 18 (fa 1 5),o 19 (ld 1 18),o 20 (li 1 [19]),m 4 20] r) (g [o 22 (bu .eql 11 23),m 21 22] (c 21 (q (g [o 23 (fa 2 5),o 24 (ld 1 23),m 25 1,o 26 (bi .add 25 1),o 27 (b .eql 24 26)] (c 27 (g [m 28 1,o 29 (bi .add 28 1),o 30 (li 1 [29]),m 4 30] r) k)) (g [m 31 1,o 32 (bi .add 31 1),o 33 (fa 2 5),o 34 (ld 1 33),o 35 (.mn (.t 32) (.t 34)),m 36 1,o 37 (bi .add 36 1),o 38 (fa 2 5),o 39 (ld 1 38),o 40 (.mx (.t 37) (.t 39)),o 41 (li 1 [35,40]),m 4 41] r)) k)))))))) (g [m 42 1,o 43 (bi .add 42 1),o 44 (li 1 [43]),m 4 44] r))))⟩
def Xe:List (List Nat):=[]
def vE:AFunc:=⟨26,[.tmp 2],(g [o 1 (bx 4 0),o 2 (v (.c (.int .u64 (0))))] (g [o 8 (lg 4 1),o 9 (cg yw [8]),m 7 9,o 10 (ex 7 0),o 11 (ex 7 1),m 3 10,m 4 11] (g [o 5 (v (.c (.int .u64 (0))))] (q (g [V 6 0] (bl 0 (lo [4,5,6] (q (g [m 12 6,m 13 4,o 14 (le 13),o 15 (b .lss 12 14)] (c 15 k (e 0))) (q (bl 1 (p [m 18 5,m 19 4,m 20 6,o 21 (ia 1 19 20),o 22 (ld 1 21),o 23 (.bin .shl (.c (.int .u64 (1))) (.t 22)),o 24 (b .or 18 23),m 5 24])) (p [m 16 6,o 17 (bi .add 16 1),m 6 17])))))) (g [m 25 5,m 2 25] r)))))⟩
def Yo:List (List Nat):=[[4,5,6]]
def vh:AFunc:=⟨52,[.tmp 4],(g [o 2 (bx 7 0),o 3 (bx 7 1),W 4 kf] (g [o 5 (fa 0 2),o 6 (ld 1 5),o 7 (fa 0 3),o 8 (ld 1 7),o 9 (b .eql 6 8),m 10 9,y 11 10 (fa 1 2),y 12 10 (ld 1 11),y 13 10 (fa 1 3),y 14 10 (ld 1 13),y 15 10 (b .eql 12 14),o 16 (pf 10 15),m 17 16,y 18 17 (fa 2 2),y 19 17 (ld 1 18),y 20 17 (fa 2 3),y 21 17 (ld 1 20),y 22 17 (b .eql 19 21),o 23 (pf 17 22),m 24 23,y 25 24 (fa 3 2),y 26 24 (ld 1 25),y 27 24 (fa 3 3),y 28 24 (ld 1 27),y 29 24 (cg xC [26,28]),o 30 (pf 24 29),m 31 30,y 32 31 (fa 4 2),y 33 31 (ld 1 32),y 34 31 (fa 4 3),y 35 31 (ld 1 34),y 36 31 (cg tN [33,35]),o 37 (pf 31 36),m 38 37,y 39 38 (fa 5 2),y 40 38 (ld 1 39),y 41 38 (fa 5 3),y 42 38 (ld 1 41),y 43 38 (cg v8 [40,42]),o 44 (pf 38 43),m 45 44,y 46 45 (fa 6 2),y 47 45 (ld 1 46),y 48 45 (fa 6 3),y 49 45 (ld 1 48),y 50 45 (cg v8 [47,49]),o 51 (pf 45 50),m 4 51] r))⟩
def ZK:List (List Nat):=[]
def V6:AFunc:=⟨37,[.tmp 8],(g [o 4 (bx 3 0),W 8 kf] (g [o 13 (lg 3 4),o 14 (cg qs [13]),m 12 14,o 15 (ex 12 0),o 16 (ex 12 1),o 17 (ex 12 2),m 9 15,m 10 16,m 11 17] (g [m 18 9,m 19 1,o 20 (b .eql 18 19),m 21 20,y 22 21 (mt 10),y 23 21 (mt 2),y 24 21 (b .eql 22 23),o 25 (pf 21 24),m 26 25,y 27 26 (mt 11),y 28 26 (mt 3),y 29 26 (b .eql 27 28),o 30 (pf 26 29),m 31 30,y 32 31 (lg 3 4),y 33 31 (cg qt [32]),y 34 31 (mt 3),y 35 31 (b .eql 33 34),o 36 (pf 31 35),m 8 36] r)))⟩
def WS:List (List Nat):=[]
def V5:AFunc:=⟨32,[.cell 2 true 3],(g [o 1 (bx 4 0),o 2 (.alloc [.nils,.nils,.nils])] (q (.draw [o 3 (.build [.int .u8 (0),iz,iz,.nils] [(0,1,(ku 2))]),o 4 (li 4 [3]),o 5 (.build [.str [],iz] [(0,1,(.c (.str [110])))]),o 6 (li 2 [5]),o 7 (.build [.int .u8 (0),iz,iz,iz] [(0,1,(ku 1)),(2,1,(ki 7))]),w 8 (lg 4 1),o 9 (.build [.int .u8 (0),iz,iz,iz] [(0,1,(ku 25)),(1,1,(ki (-1))),(2,1,(ki 1))]),o 10 (cg yG []),o 11 (li 4 [7,8,9,10]),o 12 (.build [iz,.int .u64 (0)] []),o 13 (.build [iz,.int .u64 (0)] [(0,1,(ki 2)),(1,1,(.c (.int .u64 (8))))]),o 14 (.build [iz,.int .u64 (0)] [(0,1,(ki 3))]),o 15 (li 2 [12,13,14]),o 16 (.build [iz,.int .u64 (0)] []),o 17 (.build [iz,.int .u64 (0)] [(0,1,(ki 1)),(1,1,(.c (.int .u64 (1))))]),o 18 (.build [iz,.int .u64 (0)] [(0,1,(ki 3))]),o 19 (li 2 [16,17,18]),o 20 (.build [.str [],iz,iz,.nils,.nils,.nils,.nils] [(0,1,(.c (.str [109,97,105,110]))),(2,1,(ki (-1))),(3,1,(.t 6)),(4,1,(.t 11)),(5,1,(.t 15)),(6,1,(.t 19))]),o 21 (.build [.str [],iz] [(0,1,(.c (.str [97])))]),o 22 (li 2 [21]),o 23 (cg yG []),o 24 (li 4 [23]),o 25 (.build [iz,.int .u64 (0)] []),o 26 (li 2 [25]),o 27 (.build [iz,.int .u64 (0)] []),o 28 (li 2 [27]),o 29 (.build [.str [],iz,iz,.nils,.nils,.nils,.nils] [(0,1,(.c (.str [102]))),(1,1,(ki 1)),(2,1,(ki (-1))),(3,1,(.t 22)),(4,1,(.t 24)),(5,1,(.t 26)),(6,1,(.t 28))]),o 30 (li 7 [20,29]),o 31 (.build [.nils,.nils,.nils] [(0,1,(.t 4)),(2,1,(.t 30))]),s 3 2 (.t 31)]) r))⟩
def WR:List (List Nat):=[]
def uu:AFunc:=⟨32,[.tmp 2,.tmp 3,.tmp 4],(g [o 1 (bx 3 0),V 2 0,V 3 0,V 4 0] (q (g [o 9 (lg 3 1),o 10 (cg xK [9]),m 5 10] (g [m 11 5,o 12 (bi .neq 11 0)] (c 12 (g [m 13 5,V 2 0,V 3 0,m 4 13] r) k))) (q (g [V 6 0] (bl 0 (lo [1,6] (q (g [m 14 6,o 15 (fa 2 1),o 16 (ld 1 15),o 17 (le 16),o 18 (b .lss 14 17)] (c 18 k (e 0))) (q (bl 1 (g [o 22 (lg 3 1),m 23 6,o 24 (cg uS [22,23]),m 21 24,o 25 (ex 21 0),o 26 (ex 21 1),m 7 25,m 8 26] (g [m 27 8,o 28 (bi .neq 27 0)] (c 28 (g [m 29 6,m 30 7,m 31 8,m 2 29,m 3 30,m 4 31] r) k)))) (p [m 19 6,o 20 (bi .add 19 1),m 6 20])))))) (g [V 2 0,V 3 0,V 4 0] r))))⟩
def WA:List (List Nat):=[[1,6]]
def uv:AFunc:=⟨13,[.tmp 2],(g [o 1 (bx 3 0),V 2 0] (g [o 7 (lg 3 1),o 8 (cg uU [7]),m 6 8,o 9 (ex 6 0),o 10 (ex 6 1),o 11 (ex 6 2),m 3 9,m 4 10,m 5 11] (g [m 12 5,m 2 12] r)))⟩
def WB:List (List Nat):=[]
def vY:AFunc:=⟨6,[.tmp 2],(g [W 2 kn] (g [m 3 0,o 4 (.conv .u64 (.t 3)),o 5 (cg zx [4]),m 2 5] r))⟩
def X9:List (List Nat):=[]
def vZ:AFunc:=⟨30,[.tmp 2],(g [W 2 kn] (g [m 5 0,o 6 (le 5),o 7 (cg zr [6]),m 3 7] (q (g [V 4 0] (bl 0 (lo [0,3,4] (q (g [m 8 4,m 9 0,o 10 (le 9),o 11 (b .lss 8 10)] (c 11 k (e 0))) (q (bl 1 (.draw [m 14 3,m 15 0,m 16 4,o 17 (ia 2 15 16),o 18 (fa 0 17),o 19 (ld 1 18),o 20 (cg x4 [19]),o 21 (ap 1 1 14 20),m 22 0,m 23 4,o 24 (ia 2 22 23),o 25 (fa 1 24),w 26 (ld 1 25),o 27 (cg zr [26]),o 28 (ap 1 1 21 27),m 3 28])) (p [m 12 4,o 13 (bi .add 12 1),m 4 13])))))) (g [m 29 3,m 2 29] r))))⟩
def Xa:List (List Nat):=[[0,3,4]]
def tI:AFunc:=⟨9,[.tmp 2],(g [W 2 kn] (g [m 3 0,o 4 (.lenS (.t 3)),o 5 (.conv .u64 (.t 4)),o 6 (cg zx [5]),m 7 0,o 8 (ap 1 1 6 7),m 2 8] r))⟩
def U2:List (List Nat):=[]
def vH:AFunc:=⟨20,[.tmp 2],(g [W 2 kn] (g [W 3 kn] (q (bl 0 (lo [0,3] (q (g [m 4 0,o 5 (.bin .geq (.t 4) (.c (.int .u64 (128))))] (c 5 k (e 0))) (bl 1 (g [m 6 3,m 7 0,o 8 (.bin .rem (.t 7) (.c (.int .u64 (128)))),o 9 (.conv .u8 (.t 8)),o 10 (bu .add 9 128),o 11 (li 1 [10]),o 12 (ap 1 1 6 11),m 3 12] (p [m 13 0,o 14 (.bin .quo (.t 13) (.c (.int .u64 (128)))),m 0 14])))))) (g [m 15 3,m 16 0,o 17 (.conv .u8 (.t 16)),o 18 (li 1 [17]),o 19 (ap 1 1 15 18),m 2 19] r))))⟩
def Yr:List (List Nat):=[[0,3]]
def u9:AFunc:=⟨14,[.tmp 2],(g [o 2 (v (.c (.int .u64 (0))))] (q (g [m 3 0,o 4 (bi .geq 3 0)] (c 4 (g [m 5 0,o 6 (.conv .u64 (.t 5)),o 7 (.bin .mul (.t 6) (.c (.int .u64 (2)))),m 2 7] r) k)) (g [m 8 0,o 9 (bi .add 8 1),o 10 (.un .neg (.t 9)),o 11 (.conv .u64 (.t 10)),o 12 (.bin .mul (.t 11) (.c (.int .u64 (2)))),o 13 (.bin .add (.t 12) (.c (.int .u64 (1)))),m 2 13] r)))⟩
def Xl:List (List Nat):=[]
def uD:AFunc:=⟨42,[.tmp 2],(g [o 1 (bx 4 0),W 2 kn] (g [o 7 (fa 0 1),o 8 (ld 1 7),o 9 (li 1 [8]),m 3 9] (q (.draw [o 5 (.alloc [iz,iz,iz]),o 10 (fa 0 1),o 11 (ld 1 10),o 12 (cg yK [11]),w 13 (lg 4 1),o 14 (cg yo [13]),m 4 12,s 3 5 (.t 14)]) (q (g [V 6 0] (bl 0 (lo [3,4,5,6] (q (g [m 15 6,o 16 (bi .lss 15 3)] (c 16 k (e 0))) (q (bl 1 (q (g [m 19 4,m 20 6,o 21 (.indexS (.t 19) (.t 20)),o 22 (bu .eql 21 45)] (c 22 (e 1) k)) (g [m 23 4,m 24 6,o 25 (.indexS (.t 23) (.t 24)),o 26 (cg uf [25])] (c 26 (p [m 27 3,m 28 6,o 29 (.iaddrA 3 1 (.t 5) (.t 28)),o 30 (ld 1 29),o 31 (cg xn [30]),o 32 (cg zx [31]),o 33 (ap 1 1 27 32),m 3 33]) (p [m 34 3,m 35 6,o 36 (.iaddrA 3 1 (.t 5) (.t 35)),o 37 (ld 1 36),o 38 (.conv .u64 (.t 37)),o 39 (cg zx [38]),o 40 (ap 1 1 34 39),m 3 40]))))) (p [m 17 6,o 18 (bi .add 17 1),m 6 18])))))) (g [m 41 3,m 2 41] r)))))⟩
def WK:List (List Nat):=[[3,4,5,6]]
def uz:AFunc:=⟨41,[.tmp 2],(g [W 2 kn] (g [m 6 0,o 7 (le 6),o 8 (.conv .u64 (.t 7)),o 9 (cg zx [8]),m 3 9] (g [V 4 0] (q (g [V 5 0] (bl 0 (lo [0,3,4,5] (q (g [m 10 5,m 11 0,o 12 (le 11),o 13 (b .lss 10 12)] (c 13 k (e 0))) (q (bl 1 (g [m 16 3,m 17 0,m 18 5,o 19 (ia 2 17 18),o 20 (fa 0 19),o 21 (ld 1 20),m 22 4,o 23 (b .sub 21 22),o 24 (.conv .u64 (.t 23)),o 25 (cg zx [24]),o 26 (ap 1 1 16 25),m 3 26] (g [m 27 3,m 28 0,m 29 5,o 30 (ia 2 28 29),o 31 (fa 1 30),o 32 (ld 1 31),o 33 (cg zx [32]),o 34 (ap 1 1 27 33),m 3 34] (p [m 35 0,m 36 5,o 37 (ia 2 35 36),o 38 (fa 0 37),o 39 (ld 1 38),m 4 39])))) (p [m 14 5,o 15 (bi .add 14 1),m 5 15])))))) (g [m 40 3,m 2 40] r)))))⟩
def WG:List (List Nat):=[[0,3,4,5]]
def tH:AFunc:=⟨29,[.tmp 2],(g [W 2 kn] (g [W 3 kn] (q (g [V 4 0] (bl 0 (lo [0,3,4] (q (g [m 6 4,m 7 0,o 8 (le 7),o 9 (b .lss 6 8)] (c 9 k (e 0))) (q (bl 1 (g [m 12 0,m 13 4,o 14 (ia 4 12 13),o 15 (lg 4 14),o 5 (.alloc [.int .u8 (0),iz,iz,.nils]),s 4 5 (.t 15)] (g [o 16 (li 2 []),m 17 0,m 18 4,o 19 (ia 4 17 18),o 20 (fa 3 19),o 21 (ld 1 20),o 22 (ap 2 24 16 21),o 23 (fa 3 5),s 1 23 (.t 22)] (p [m 24 3,o 25 (lg 4 5),o 26 (li 4 [25]),o 27 (ap 4 48 24 26),m 3 27])))) (p [m 10 4,o 11 (bi .add 10 1),m 4 11])))))) (g [m 28 3,m 2 28] r))))⟩
def U1:List (List Nat):=[[0,3,4]]
def Y2:AFunc:=⟨11,[.tmp 2],(g [o 1 (bx 3 0),V 2 0] (g [o 6 (lg 3 1),o 7 (cg Ze [6]),m 5 7,o 8 (ex 5 0),o 9 (ex 5 1),m 3 8,m 4 9] (g [m 10 4,m 2 10] r)))⟩
def z35:List (List Nat):=[]
def kw:AFunc:=⟨162,[.cell 4 true 4],(g [o 2 (bx 3 0),o 4 (.alloc [.nils,.nils,iz,iz])] (q (.draw [o 5 (.alloc [.nils,.nils,.nils,.str [],iz,iz,.nils,.nils,.nils,.nils]),o 22 (lg 3 2),o 23 (fa 2 2),o 24 (ld 1 23),m 25 1,o 26 (ia 7 24 25),o 27 (lg 7 26),o 28 (.build [.nils,.nils,.nils,.str [],iz,iz,.nils,.nils,.nils,.nils] [(0,3,(.t 22)),(3,7,(.t 27))]),s 10 5 (.t 28)]) (g [o 29 (fa 3 5),o 30 (fa 4 29),o 31 (ld 1 30),m 6 31] (g [m 33 6,o 34 (cg j9 [33]),m 32 34,o 35 (ex 32 0),o 36 (ex 32 1),m 7 35,m 8 36] (q (g [m 37 8,o 38 (bi .neq 37 0)] (c 38 (g [o 39 (.build [.nils,.nils,iz,iz] [(2,1,(ki (-1))),(3,1,(ki 12))]),s 4 4 (.t 39)] r) k)) (q (g [m 40 1,o 41 (bi .eql 40 0),m 42 41,y 43 42 (fa 3 5),y 44 42 (fa 1 43),y 45 42 (ld 1 44),y 46 42 (bi .gtr 45 0),y 47 42 (mt 46),z 48 47 (fa 3 5),z 49 47 (fa 2 48),z 50 47 (ld 1 49),z 51 47 (bi .geq 50 0),y 52 42 (pt 47 51),o 53 (pf 42 52)] (c 53 (g [o 54 (.build [.nils,.nils,iz,iz] [(2,1,(ki (-1))),(3,1,(ki 30))]),s 4 4 (.t 54)] r) k)) (q (g [m 55 6,o 56 (le 55),V 57 0] (bl 0 (lo [4,5,6,7,55,56,57] (g [o 58 (b .lss 57 56)] (q (c 58 k (e 0)) (q (bl 1 (g [m 59 57,o 60 (ia 4 55 57),o 61 (lg 4 60),o 10 (.alloc [.int .u8 (0),iz,iz,iz]),m 9 59,s 4 10 (.t 61)] (bl 2 (g [o 63 (lg 10 5),o 64 (lg 4 10),o 65 (cg ta [63,64]),o 66 (bi .neq 65 0),m 62 66] (c 62 (g [m 67 9,o 68 (.build [.nils,.nils,iz,iz] [(2,1,(.t 67)),(3,1,(ki 16))]),s 4 4 (.t 68)] r) (g [m 70 7,m 71 9,o 72 (ia 1 70 71),o 73 (ld 1 72),o 74 (.un .not (.t 73)),m 69 74] (c 69 (g [m 75 9,o 76 (.build [.nils,.nils,iz,iz] [(2,1,(.t 75)),(3,1,(ki 6))]),s 4 4 (.t 76)] r) (g [o 78 (lg 10 5),o 79 (lg 4 10),o 80 (cg zO [78,79]),o 81 (.un .not (.t 80)),m 77 81] (c 77 (g [m 82 9,o 83 (.build [.nils,.nils,iz,iz] [(2,1,(.t 82)),(3,1,(ki 30))]),s 4 4 (.t 83)] r) k))))))))) (p [o 84 (bi .add 57 1),m 57 84]))))))) (g [o 86 (lg 10 5),o 87 (cg vx [86]),m 85 87,o 88 (ex 85 0),o 89 (ex 85 1),m 11 88,m 12 89] (q (g [m 90 12,o 91 (.un .not (.t 90))] (c 91 (g [o 92 (.build [.nils,.nils,iz,iz] [(2,1,(ki (-1))),(3,1,(ki 36))]),s 4 4 (.t 92)] r) k)) (g [m 94 6,o 95 (fa 3 5),o 96 (fa 1 95),o 97 (ld 1 96),o 98 (fa 3 5),o 99 (fa 3 98),o 100 (ld 1 99),o 101 (le 100),o 102 (cg XT [94,97,101]),m 93 102,o 103 (ex 93 0),o 104 (ex 93 1),m 13 103,m 8 104] (q (g [m 105 8,o 106 (bi .neq 105 0)] (c 106 (g [m 107 8,o 108 (.build [.nils,.nils,iz,iz] [(2,1,(ki (-1))),(3,1,(.t 107))]),s 4 4 (.t 108)] r) k)) (q (g [m 109 6,o 110 (le 109),V 111 0] (bl 3 (lo [4,11,13,109,110,111] (g [o 112 (b .lss 111 110)] (q (c 112 k (e 3)) (q (bl 4 (g [m 113 111,o 114 (ia 4 109 111),o 115 (lg 4 114),o 15 (.alloc [.int .u8 (0),iz,iz,iz]),m 14 113,s 4 15 (.t 115)] (g [o 117 (lg 4 15),o 118 (cg jS [117]),m 116 118,o 119 (ex 116 0),o 120 (ex 116 1),o 121 (ex 116 2),m 16 119,m 17 120,m 18 121] (g [m 122 16,o 123 (le 122),V 124 0] (bl 5 (lo [4,11,13,14,18,109,110,111,122,123,124] (g [o 125 (b .lss 124 123)] (q (c 125 k (e 5)) (q (bl 6 (g [o 126 (ia 1 122 124),o 127 (ld 1 126),m 20 127] (g [m 128 18,o 129 (bi .neq 128 0),m 130 129,z 131 130 (mt 13),z 132 130 (mt 14),z 133 130 (ia 1 131 132),z 134 130 (ld 1 133),z 135 130 (mt 20),z 136 130 (b .shr 134 135),z 137 130 (.bin .and (.t 136) (.c (.int .u64 (1)))),z 138 130 (.bin .eql (.t 137) (.c (.int .u64 (0)))),o 139 (pt 130 138)] (c 139 (g [m 140 14,o 141 (.build [.nils,.nils,iz,iz] [(2,1,(.t 140)),(3,1,(ki 38))]),s 4 4 (.t 141)] r) k)))) (p [o 142 (bi .add 124 1),m 124 142])))))))))) (p [o 143 (bi .add 111 1),m 111 143]))))))) (g [o 21 (.alloc [.nils,.nils,iz,iz])] (g [m 145 11,o 146 (cg jD [145]),m 144 146,o 147 (ex 144 0),o 148 (ex 144 1),o 149 (fa 0 21),s 1 149 (.t 147),o 150 (fa 3 21),s 1 150 (.t 148)] (q (g [o 151 (fa 3 21),o 152 (ld 1 151),o 153 (bi .eql 152 0)] (c 153 (p [m 155 13,o 156 (cg jD [155]),m 154 156,o 157 (ex 154 0),o 158 (ex 154 1),o 159 (fa 1 21),s 1 159 (.t 157),o 160 (fa 3 21),s 1 160 (.t 158)]) k)) (g [o 161 (lg 4 21),s 4 4 (.t 161)] r))))))))))))))))⟩
def z4R:List (List Nat):=[[4,5,6,7,55,56,57],[4,11,13,109,110,111],[4,11,13,14,18,109,110,111,122,123,124]]
def yP:AFunc:=⟨26,[.tmp 4],(g [W 4 kf] (q (g [m 6 0,o 7 (le 6),m 8 1,o 9 (le 8),o 10 (b .neq 7 9)] (c 10 (g [W 4 kf] r) k)) (q (g [m 11 0,o 12 (le 11),V 13 0] (bl 0 (lo [0,1,12,13] (g [o 14 (b .lss 13 12)] (q (c 14 k (e 0)) (q (bl 1 (g [m 15 13,m 5 15] (q (.draw [m 16 0,m 17 5,o 18 (ia 2 16 17),o 19 (lg 2 18),m 20 1,m 21 5,o 22 (ia 2 20 21),o 23 (lg 2 22),o 24 (.ext (.eqA true 2 [(0,1),(1,1)] (.t 19) (.t 23)))]) (c 24 (g [W 4 kf] r) k)))) (p [o 25 (bi .add 13 1),m 13 25]))))))) (g [W 4 kt] r))))⟩
def jm:List (List Nat):=[[0,1,12,13]]
def uI:AFunc:=⟨42,[.tmp 2],(g [W 2 kf] (q (g [m 5 0,o 6 (le 5),o 7 (bi .gtr 6 40)] (c 7 (g [W 2 kt] r) k)) (q (g [V 3 0] (bl 0 (lo [0,3] (q (g [m 8 3,m 9 0,o 10 (le 9),o 11 (b .lss 8 10)] (c 11 k (e 0))) (q (bl 1 (q (g [m 14 0,m 15 3,o 16 (ia 4 14 15),o 17 (fa 3 16),o 18 (ld 1 17),o 19 (le 18),o 20 (bi .gtr 19 20)] (c 20 (g [W 2 kt] r) k)) (g [V 4 0] (bl 2 (lo [0,3,4] (q (g [m 21 4,m 22 0,m 23 3,o 24 (ia 4 22 23),o 25 (fa 3 24),o 26 (ld 1 25),o 27 (le 26),o 28 (b .lss 21 27)] (c 28 k (e 2))) (q (bl 3 (g [m 31 0,m 32 3,o 33 (ia 4 31 32),o 34 (fa 3 33),o 35 (ld 1 34),m 36 4,o 37 (ia 2 35 36),o 38 (fa 0 37),o 39 (ld 1 38),o 40 (.lenS (.t 39)),o 41 (bi .gtr 40 100)] (c 41 (g [W 2 kt] r) k))) (p [m 29 4,o 30 (bi .add 29 1),m 4 30])))))))) (p [m 12 3,o 13 (bi .add 12 1),m 3 13])))))) (g [W 2 kf] r))))⟩
def WP:List (List Nat):=[[0,3],[0,3,4]]
def tA:AFunc:=⟨96,[.tmp 2],(g [o 1 (bx 3 0),W 2 kf] (q (g [o 9 (fa 0 1),o 10 (ld 1 9),o 11 (cg xQ [10]),o 12 (bi .neq 11 0),m 13 12,z 14 13 (fa 1 1),z 15 13 (ld 1 14),z 16 13 (le 15),z 17 13 (bi .gtr 16 32),o 18 (pt 13 17),m 19 18,z 20 19 (fa 2 1),z 21 19 (ld 1 20),z 22 19 (le 21),z 23 19 (bi .lss 22 1),o 24 (pt 19 23),m 25 24,z 26 25 (fa 2 1),z 27 25 (ld 1 26),z 28 25 (le 27),z 29 25 (bi .gtr 28 32),o 30 (pt 25 29)] (c 30 (g [W 2 kf] r) k)) (g [o 32 (fa 0 1),o 33 (ld 1 32),o 34 (cg yL [33]),m 31 34,o 35 (ex 31 0),o 36 (ex 31 1),m 3 35,m 4 36] (q (g [V 5 0] (bl 0 (lo [1,3,5] (q (g [m 37 5,m 38 3,o 39 (le 38),o 40 (b .lss 37 39)] (c 40 k (e 0))) (q (bl 1 (g [m 43 3,m 44 5,o 45 (ia 1 43 44),o 46 (ld 1 45),o 47 (bi .gtr 46 256)] (c 47 (g [W 2 kf] r) k))) (p [m 41 5,o 42 (bi .add 41 1),m 5 42])))))) (q (g [V 6 0] (bl 2 (lo [1,6] (q (g [m 48 6,o 49 (fa 1 1),o 50 (ld 1 49),o 51 (le 50),o 52 (b .lss 48 51)] (c 52 k (e 2))) (q (bl 3 (g [o 55 (fa 1 1),o 56 (ld 1 55),m 57 6,o 58 (ia 1 56 57),o 59 (ld 1 58),o 60 (.lenS (.t 59)),o 61 (bi .gtr 60 64)] (c 61 (g [W 2 kf] r) k))) (p [m 53 6,o 54 (bi .add 53 1),m 6 54])))))) (q (g [V 7 0] (bl 4 (lo [1,7] (q (g [m 62 7,o 63 (fa 2 1),o 64 (ld 1 63),o 65 (le 64),o 66 (b .lss 62 65)] (c 66 k (e 4))) (q (bl 5 (q (q (.draw [o 69 (fa 0 1),o 70 (ld 1 69),o 71 (fa 2 1),o 72 (ld 1 71),m 73 7,o 74 (ia 7 72 73),o 75 (lg 7 74),o 76 (cg vq [70,75]),o 77 (.un .not (.t 76))]) (c 77 (g [W 2 kf] r) k)) (g [V 8 0] (bl 6 (lo [1,7,8] (q (g [m 78 8,m 79 7,o 80 (b .lss 78 79)] (c 80 k (e 6))) (q (bl 7 (q (.draw [o 83 (fa 2 1),o 84 (ld 1 83),m 85 8,o 86 (ia 7 84 85),o 87 (fa 0 86),o 88 (ld 1 87),o 89 (fa 2 1),o 90 (ld 1 89),m 91 7,o 92 (ia 7 90 91),o 93 (fa 0 92),o 94 (ld 1 93),o 95 (b .eql 88 94)]) (c 95 (g [W 2 kf] r) k))) (p [m 81 8,o 82 (bi .add 81 1),m 8 82])))))))) (p [m 67 7,o 68 (bi .add 67 1),m 7 68])))))) (g [W 2 kt] r)))))))⟩
def VT:List (List Nat):=[[1,3,5],[1,6],[1,7],[1,7,8]]
def uE:AFunc:=⟨26,[.tmp 2],(g [o 1 (bx 4 0),V 2 0] (q (.draw [o 4 (.alloc [iz,iz,iz]),o 6 (fa 0 1),o 7 (ld 1 6),o 8 (cg yK [7]),w 9 (lg 4 1),o 10 (cg yo [9]),m 3 8,s 3 4 (.t 10)]) (q (g [m 11 3,o 12 (.lenS (.t 11)),o 13 (bi .neq 12 3)] (c 13 (g [V 2 8] r) k)) (q (g [V 5 0] (bl 0 (lo [3,4,5] (q (g [m 14 5,o 15 (bi .lss 14 3)] (c 15 k (e 0))) (q (bl 1 (q (.draw [m 18 3,m 19 5,o 20 (.indexS (.t 18) (.t 19)),m 21 5,o 22 (.iaddrA 3 1 (.t 4) (.t 21)),o 23 (ld 1 22),o 24 (cg tO [20,23]),o 25 (.un .not (.t 24))]) (c 25 (g [V 2 8] r) k))) (p [m 16 5,o 17 (bi .add 16 1),m 5 17])))))) (g [V 2 0] r)))))⟩
def WL:List (List Nat):=[[3,4,5]]
def vX:AFunc:=⟨14,[.tmp 2],(g [o 1 (bx 4 0),V 2 0] (q (g [o 3 (fa 0 1),o 4 (ld 1 3)] (bl 0 (g [o 6 (bu .eql 4 25),m 5 6] (c 5 (g [o 7 (fa 2 1),o 8 (ld 1 7),m 2 8] r) (q (g [o 10 (bu .eql 4 26),m 9 10] (c 9 k (p [o 11 (bu .eql 4 27),m 9 11]))) (c 9 (g [o 12 (fa 1 1),o 13 (ld 1 12),m 2 13] r) k)))))) (g [V 2 (-1)] r)))⟩
def X8:List (List Nat):=[]
def uP:AFunc:=⟨57,[.tmp 4],(g [o 2 (bx 10 0),o 3 (bx 4 1),V 4 0] (g [o 12 (lg 4 3),o 13 (cg jS [12]),m 11 13,o 14 (ex 11 0),o 15 (ex 11 1),o 16 (ex 11 2),m 5 14,m 6 15,m 7 16] (q (g [m 17 7,o 18 (bi .neq 17 0)] (c 18 (g [m 19 7,m 4 19] r) k)) (q (g [m 20 5,m 21 6,o 22 (ap 1 8 20 21),o 23 (le 22),V 24 0] (bl 0 (lo [2,3,22,23,24] (g [o 25 (b .lss 24 23)] (q (c 25 k (e 0)) (q (bl 1 (g [o 26 (ia 1 22 24),o 27 (ld 1 26),m 9 27] (g [o 28 (fa 3 2),o 29 (fa 3 28),o 30 (ld 1 29),m 31 9,o 32 (cg yq [30,31]),o 33 (.un .not (.t 32))] (c 33 (g [V 4 16] r) k)))) (p [o 34 (bi .add 24 1),m 24 34]))))))) (q (g [o 35 (lg 4 3),o 36 (cg tU [35]),m 10 36] (g [m 37 10,o 38 (fa 0 2),o 39 (fa 2 38),o 40 (ld 1 39),o 41 (le 40),o 42 (b .geq 37 41),m 43 42,z 44 43 (fa 0 3),z 45 43 (ld 1 44),z 46 43 (bu .eql 45 2),z 47 43 (mt 46),y 48 47 (fa 0 2),y 49 47 (fa 1 48),y 50 47 (ld 1 49),y 51 47 (fa 2 3),y 52 47 (ld 1 51),y 53 47 (cg t6 [50,52]),y 54 47 (.un .not (.t 53)),z 55 43 (pf 47 54),o 56 (pt 43 55)] (c 56 (g [V 4 16] r) k))) (g [V 4 0] r))))))⟩
def V1:List (List Nat):=[[2,3,22,23,24]]
def zZ:AFunc:=⟨244,[.tmp 4],(g [o 2 (bx 10 0),o 3 (bx 4 1),W 4 kf] (q (.draw [o 10 (lg 10 2),o 11 (fa 1 3),o 12 (ld 1 11),o 13 (cg zq [10,12]),w 14 (lg 10 2),o 15 (fa 2 3),w 16 (ld 1 15),o 17 (cg zq [14,16]),w 18 (lg 10 2),o 19 (fa 3 3),w 20 (ld 1 19),o 21 (cg zq [18,20]),m 5 13,m 6 17,m 7 21]) (g [o 22 (.mkfn (.func vw) [] [(.t 2)]),m 8 22] (g [o 23 (.mkfn (.func vu) [] [(.t 2)]),m 9 23] (q (g [o 24 (fa 0 3),o 25 (ld 1 24)] (bl 0 (q (g [o 27 (bu .eql 25 1),m 26 27] (c 26 k (p [o 28 (bu .eql 25 32),m 26 28]))) (c 26 (g [m 29 8,m 30 5,o 31 (li 1 [30]),o 32 (.call (.t 29) [(.t 31)]),m 4 32] r) (g [o 34 (bu .eql 25 2),m 33 34] (c 33 (g [o 35 (lg 10 2),m 36 5,o 37 (.lit 1 [(ku 3)]),o 38 (cg zu [35,36,37]),m 4 38] r) (q (g [o 40 (bu .eql 25 3),m 39 40] (c 39 k (p [o 41 (bu .eql 25 23),m 39 41]))) (c 39 (g [m 42 9,m 43 5,o 44 (.call (.t 42) [(.t 43)]),m 4 44] r) (g [o 46 (bu .eql 25 5),m 45 46] (c 45 (g [m 47 5,m 48 6,o 49 (b .eql 47 48),m 4 49] r) (q (g [o 51 (bu .eql 25 6),m 50 51] (c 50 k (g [o 52 (bu .eql 25 7),m 50 52] (c 50 k (g [o 53 (bu .eql 25 8),m 50 53] (c 50 k (p [o 54 (bu .eql 25 9),m 50 54]))))))) (c 50 (g [m 55 8,m 56 5,m 57 6,m 58 7,o 59 (li 1 [56,57,58]),o 60 (.call (.t 55) [(.t 59)]),m 4 60] r) (g [o 62 (bu .eql 25 10),m 61 62] (c 61 (g [m 63 9,m 64 5,o 65 (.call (.t 63) [(.t 64)]),m 66 65,y 67 66 (mt 8),y 68 66 (mt 6),y 69 66 (mt 7),y 70 66 (li 1 [68,69]),y 71 66 (.call (.t 67) [(.t 70)]),o 72 (pf 66 71),m 4 72] r) (g [o 74 (bu .eql 25 11),m 73 74] (c 73 (g [m 75 9,m 76 5,o 77 (.call (.t 75) [(.t 76)]),m 78 77,y 79 78 (mt 6),y 80 78 (mt 7),y 81 78 (b .eql 79 80),o 82 (pf 78 81),m 83 82,y 84 83 (lg 10 2),y 85 83 (mt 6),y 86 83 (.lit 1 [(ku 2),(ku 1),(ku 4)]),y 87 83 (cg zu [84,85,86]),o 88 (pf 83 87),m 4 88] r) (g [o 90 (bu .eql 25 12),m 89 90] (c 89 (g [m 91 9,m 92 5,o 93 (.call (.t 91) [(.t 92)]),m 94 93,y 95 94 (mt 9),y 96 94 (mt 6),y 97 94 (.call (.t 95) [(.t 96)]),o 98 (pf 94 97),m 4 98] r) (g [o 100 (bu .eql 25 13),m 99 100] (c 99 (g [o 101 (lg 10 2),m 102 6,o 103 (fa 3 3),o 104 (ld 1 103),m 105 5,o 106 (cg x9 [101,102,104,105]),m 4 106] r) (g [o 108 (bu .eql 25 14),m 107 108] (c 107 (g [o 109 (lg 10 2),m 110 5,o 111 (fa 2 3),o 112 (ld 1 111),m 113 7,o 114 (cg x9 [109,110,112,113]),m 4 114] r) (g [o 116 (bu .eql 25 15),m 115 116] (c 115 (g [o 117 (lg 10 2),m 118 5,o 119 (.lit 1 [(ku 4)]),o 120 (cg zu [117,118,119]),m 4 120] r) (g [o 122 (bu .eql 25 16),m 121 122] (c 121 (g [o 123 (lg 10 2),m 124 6,m 125 5,o 126 (.lit 1 [(ku 4)]),o 127 (cg ym [123,124,125,126]),m 4 127] r) (g [o 129 (bu .eql 25 17),m 128 129] (c 128 (g [o 130 (lg 10 2),m 131 5,m 132 6,o 133 (.lit 1 [(ku 4)]),o 134 (cg ym [130,131,132,133]),m 4 134] r) (g [o 136 (bu .eql 25 18),m 135 136] (c 135 (g [o 137 (lg 10 2),m 138 5,o 139 (.lit 1 [(ku 7)]),o 140 (cg zu [137,138,139]),m 141 140,y 142 141 (mt 8),y 143 141 (mt 6),y 144 141 (li 1 [143]),y 145 141 (.call (.t 142) [(.t 144)]),o 146 (pf 141 145),m 4 146] r) (g [o 148 (bu .eql 25 19),m 147 148] (c 147 (g [o 149 (lg 10 2),m 150 6,m 151 5,o 152 (.lit 1 [(ku 7),(ku 6)]),o 153 (cg ym [149,150,151,152]),m 154 153,y 155 154 (mt 8),y 156 154 (mt 7),y 157 154 (li 1 [156]),y 158 154 (.call (.t 155) [(.t 157)]),o 159 (pf 154 158),m 4 159] r) (g [o 161 (bu .eql 25 20),m 160 161] (c 160 (g [o 162 (lg 10 2),m 163 5,m 164 7,o 165 (.lit 1 [(ku 7),(ku 6)]),o 166 (cg ym [162,163,164,165]),m 167 166,y 168 167 (mt 8),y 169 167 (mt 6),y 170 167 (li 1 [169]),y 171 167 (.call (.t 168) [(.t 170)]),o 172 (pf 167 171),m 4 172] r) (g [o 174 (bu .eql 25 21),m 173 174] (c 173 (g [m 175 8,m 176 5,o 177 (li 1 [176]),o 178 (.call (.t 175) [(.t 177)]),m 179 178,y 180 179 (lg 10 2),y 181 179 (mt 6),y 182 179 (.lit 1 [(ku 3),(ku 7),(ku 6)]),y 183 179 (cg zu [180,181,182]),o 184 (pf 179 183),m 4 184] r) (g [o 186 (bu .eql 25 25),m 185 186] (c 185 (g [o 187 (fa 1 3),o 188 (ld 1 187),o 189 (bi .lss 188 0),m 190 189,z 191 190 (fa 0 2),z 192 190 (fa 2 191),z 193 190 (ld 1 192),z 194 190 (fa 2 3),z 195 190 (ld 1 194),z 196 190 (ia 7 193 195),z 197 190 (fa 2 196),z 198 190 (ld 1 197),z 199 190 (mt 5),z 200 190 (b .eql 198 199),o 201 (pt 190 200),m 4 201] r) (q (g [o 203 (bu .eql 25 26),m 202 203] (c 202 k (p [o 204 (bu .eql 25 27),m 202 204]))) (c 202 (q (.draw [o 205 (lg 10 2),o 206 (fa 0 2),o 207 (fa 2 206),o 208 (ld 1 207),o 209 (fa 1 3),o 210 (ld 1 209),o 211 (ia 7 208 210),o 212 (lg 7 211),o 213 (cg uh [205,212]),m 4 213]) r) (g [o 215 (bu .eql 25 28),m 214 215] (c 214 (g [o 216 (lg 10 2),m 217 5,o 218 (.lit 1 [(ku 2),(ku 1),(ku 3)]),o 219 (cg zu [216,217,218]),m 4 219] r) (q (g [o 221 (bu .eql 25 29),m 220 221] (c 220 k (p [o 222 (bu .eql 25 33),m 220 222]))) (c 220 (g [m 223 9,m 224 5,o 225 (.call (.t 223) [(.t 224)]),m 226 225,y 227 226 (mt 8),y 228 226 (mt 6),y 229 226 (li 1 [228]),y 230 226 (.call (.t 227) [(.t 229)]),o 231 (pf 226 230),m 4 231] r) (g [o 233 (bu .eql 25 34),m 232 233] (c 232 (g [o 234 (fa 1 3),o 235 (ld 1 234),o 236 (bi .lss 235 0),m 237 236,z 238 237 (fa 3 2),z 239 237 (fa 2 238),z 240 237 (ld 1 239),z 241 237 (mt 5),z 242 237 (b .eql 240 241),o 243 (pt 237 242),m 4 243] r) k)))))))))))))))))))))))))))))))))))))))))))))) (g [W 4 kt] r))))))⟩
def Xn:List (List Nat):=[]
def Ur:AFunc:=⟨54,[.tmp 2,.tmp 3,.tmp 4],(g [o 1 (bx 4 0),W 2 kn,W 3 kn,V 4 0] (q (g [o 10 (lg 4 1),o 11 (cg qK [10]),m 5 11] (g [m 12 5,o 13 (bi .neq 12 0)] (c 13 (g [m 14 5,W 2 kn,W 3 kn,m 4 14] r) k))) (g [o 16 (fa 0 1),o 17 (ld 1 16),o 18 (cg jR [17]),m 15 18,o 19 (ex 15 0),o 20 (ex 15 1),o 6 (.alloc [iz,iz,.bool false,.bool false,iz,iz,.bool false,.bool false,iz,iz,.bool false,.bool false]),s 12 6 (.t 19),m 7 20] (q (g [o 21 (lg 4 1),o 22 (cg tR [21]),V 23 0] (bl 0 (lo [2,3,6,22,23] (g [o 24 (bi .lss 23 3)] (q (c 24 k (e 0)) (q (bl 1 (g [m 25 23,o 26 (.indexA 3 1 false (.t 22) (.t 23)),m 8 25,m 9 26] (q (g [m 27 8,o 28 (.iaddrA 3 4 (.t 6) (.t 27)),o 29 (fa 2 28),o 30 (ld 1 29),m 31 30,y 32 31 (mt 9),y 33 31 (bi .geq 32 0),o 34 (pf 31 33)] (c 34 (p [m 35 2,m 36 9,o 37 (li 1 [36]),o 38 (ap 1 8 35 37),m 2 38]) k)) (g [m 39 8,o 40 (.iaddrA 3 4 (.t 6) (.t 39)),o 41 (fa 3 40),o 42 (ld 1 41),m 43 42,y 44 43 (mt 9),y 45 43 (bi .geq 44 0),o 46 (pf 43 45)] (c 46 (p [m 47 3,m 48 9,o 49 (li 1 [48]),o 50 (ap 1 8 47 49),m 3 50]) k))))) (p [o 51 (bi .add 23 1),m 23 51]))))))) (g [m 52 2,m 53 3,m 2 52,m 3 53,V 4 0] r)))))⟩
def z67:List (List Nat):=[[2,3,6,22,23]]
def uO:AFunc:=⟨18,[.tmp 4],(g [o 2 (bx 10 0),V 4 0] (q (g [o 5 (fa 3 2),o 6 (fa 3 5),o 7 (ld 1 6),m 8 1,o 9 (cg yq [7,8]),o 10 (.un .not (.t 9))] (c 10 (g [V 4 (-1)] r) k)) (g [o 11 (fa 3 2),o 12 (fa 3 11),o 13 (ld 1 12),m 14 1,o 15 (ia 2 13 14),o 16 (fa 1 15),o 17 (ld 1 16),m 4 17] r)))⟩
def V0:List (List Nat):=[]
def uC:AFunc:=⟨57,[.tmp 2],(g [o 2 (v (.c (.str [])))] (q (g [m 3 0] (bl 0 (g [o 5 (bu .eql 3 1),m 4 5] (c 4 (g [o 2 (v (.c (.str [119,110,45])))] r) (g [o 7 (bu .eql 3 2),m 6 7] (c 6 (g [o 2 (v (.c (.str [119,116,45])))] r) (g [o 9 (bu .eql 3 3),m 8 9] (c 8 (g [o 2 (v (.c (.str [119,98,45])))] r) (q (g [o 11 (bu .eql 3 4),m 10 11] (c 10 k (p [o 12 (bu .eql 3 15),m 10 12]))) (c 10 (g [o 2 (v (.c (.str [119,45,45])))] r) (q (g [o 14 (bu .eql 3 5),m 13 14] (c 13 k (g [o 15 (bu .eql 3 12),m 13 15] (c 13 k (g [o 16 (bu .eql 3 16),m 13 16] (c 13 k (g [o 17 (bu .eql 3 18),m 13 17] (c 13 k (p [o 18 (bu .eql 3 21),m 13 18]))))))))) (c 13 (g [o 2 (v (.c (.str [119,114,45])))] r) (q (g [o 20 (bu .eql 3 6),m 19 20] (c 19 k (g [o 21 (bu .eql 3 7),m 19 21] (c 19 k (g [o 22 (bu .eql 3 8),m 19 22] (c 19 k (g [o 23 (bu .eql 3 9),m 19 23] (c 19 k (g [o 24 (bu .eql 3 10),m 19 24] (c 19 k (g [o 25 (bu .eql 3 11),m 19 25] (c 19 k (p [o 26 (bu .eql 3 19),m 19 26]))))))))))))) (c 19 (g [o 2 (v (.c (.str [119,114,114])))] r) (g [o 28 (bu .eql 3 13),m 27 28] (c 27 (g [o 2 (v (.c (.str [119,114,102])))] r) (g [o 30 (bu .eql 3 14),m 29 30] (c 29 (g [o 2 (v (.c (.str [114,102,114])))] r) (g [o 32 (bu .eql 3 17),m 31 32] (c 31 (g [o 2 (v (.c (.str [114,114,45])))] r) (g [o 34 (bu .eql 3 20),m 33 34] (c 33 (g [o 2 (v (.c (.str [114,114,114])))] r) (g [o 36 (bu .eql 3 22),m 35 36] (c 35 (g [o 2 (v (.c (.str [105,45,45])))] r) (g [o 38 (bu .eql 3 23),m 37 38] (c 37 (g [o 2 (v (.c (.str [114,105,45])))] r) (q (g [o 40 (bu .eql 3 24),m 39 40] (c 39 k (g [o 41 (bu .eql 3 28),m 39 41] (c 39 k (p [o 42 (bu .eql 3 32),m 39 42]))))) (c 39 (g [o 2 (v (.c (.str [114,45,45])))] r) (g [o 44 (bu .eql 3 25),m 43 44] (c 43 (g [o 2 (v (.c (.str [103,99,45])))] r) (q (g [o 46 (bu .eql 3 26),m 45 46] (c 45 k (p [o 47 (bu .eql 3 27),m 45 47]))) (c 45 (g [o 2 (v (.c (.str [99,45,45])))] r) (g [o 49 (bu .eql 3 29),m 48 49] (c 48 (g [o 2 (v (.c (.str [119,119,45])))] r) (q (g [o 51 (bu .eql 3 30),m 50 51] (c 50 k (p [o 52 (bu .eql 3 31),m 50 52]))) (c 50 (g [o 2 (v (.c (.str [45,45,45])))] r) (g [o 54 (bu .eql 3 33),m 53 54] (c 53 (g [o 2 (v (.c (.str [119,114,45])))] r) (g [o 56 (bu .eql 3 34),m 55 56] (c 55 (g [o 2 (v (.c (.str [101,45,45])))] r) k)))))))))))))))))))))))))))))))))))))))) (g [o 2 (v (.c (.str [])))] r)))⟩
def WJ:List (List Nat):=[]
def vi:AFunc:=⟨10,[.cell 2 true 3],(g [o 1 (bx 4 0),o 2 (.alloc [iz,iz,iz])] (g [o 3 (fa 1 1),o 4 (ld 1 3),o 5 (fa 2 1),o 6 (ld 1 5),o 7 (fa 3 1),o 8 (ld 1 7),o 9 (.build [iz,iz,iz] [(0,1,(.t 4)),(1,1,(.t 6)),(2,1,(.t 8))]),s 3 2 (.t 9)] r))⟩
def ZL:List (List Nat):=[]
def uF:AFunc:=⟨75,[.tmp 2,.tmp 3],(g [W 2 kn,W 3 kn] (g [W 4 kn,W 5 kn] (q (g [V 6 0] (bl 0 (lo [0,4,5,6] (q (g [m 9 6,m 10 0,o 11 (le 10),o 12 (b .lss 9 11)] (c 12 k (e 0))) (q (bl 1 (g [V 7 8,V 8 8] (q (g [m 15 0,m 16 6,o 17 (ia 4 15 16),o 18 (fa 0 17),o 19 (ld 1 18)] (bl 2 (g [o 21 (bu .eql 19 1),m 20 21] (c 20 (p [V 7 1,V 8 1]) (g [o 23 (bu .eql 19 3),m 22 23] (c 22 (p [V 7 16]) (g [o 25 (bu .eql 19 7),m 24 25] (c 24 (p [V 7 24]) (g [o 27 (bu .eql 19 6),m 26 27] (c 26 (.draw [m 28 0,m 29 6,o 30 (ia 4 28 29),o 31 (fa 2 30),o 32 (ld 1 31),m 33 4,m 34 0,m 35 6,o 36 (ia 4 34 35),o 37 (fa 1 36),o 38 (ld 1 37),o 39 (ia 1 33 38),o 40 (ld 1 39),o 41 (b .mul 32 40),o 42 (.mn (ki 1000000) (.t 41)),m 43 5,m 44 0,m 45 6,o 46 (ia 4 44 45),o 47 (fa 1 46),o 48 (ld 1 47),o 49 (ia 1 43 48),o 50 (ld 1 49),m 7 42,m 8 50]) (g [o 52 (bu .eql 19 5),m 51 52] (c 51 (p [m 54 4,m 55 5,m 56 0,m 57 6,o 58 (ia 4 56 57),o 59 (fa 3 58),o 60 (ld 1 59),o 61 (cg yV [54,55,60]),m 53 61,o 62 (ex 53 0),o 63 (ex 53 1),o 64 (ex 53 2),m 7 63,m 8 64]) k)))))))))))) (p [m 65 4,m 66 7,o 67 (li 1 [66]),o 68 (ap 1 8 65 67),m 69 5,m 70 8,o 71 (li 1 [70]),o 72 (ap 1 8 69 71),m 4 68,m 5 72])))) (p [m 13 6,o 14 (bi .add 13 1),m 6 14])))))) (g [m 73 4,m 74 5,m 2 73,m 3 74] r))))⟩
def WM:List (List Nat):=[[0,4,5,6]]
def vG:AFunc:=⟨5,[.tmp 2],(g [V 2 0] (g [m 3 0,o 4 (cf xB [(.t 3),(ki 8)]),m 2 4] r))⟩
def Yq:List (List Nat):=[]
def tt:AFunc:=⟨30,[.tmp 6],(g [o 3 (bx 3 0),V 6 0] (q (g [m 7 2,o 8 (bi .lss 7 0),m 9 8,z 10 9 (mt 2),z 11 9 (fa 2 3),z 12 9 (ld 1 11),z 13 9 (mt 1),z 14 9 (ia 7 12 13),z 15 9 (fa 3 14),z 16 9 (ld 1 15),z 17 9 (le 16),z 18 9 (b .geq 10 17),o 19 (pt 9 18)] (c 19 (g [V 6 (-1)] r) k)) (g [o 20 (fa 2 3),o 21 (ld 1 20),m 22 1,o 23 (ia 7 21 22),o 24 (fa 3 23),o 25 (ld 1 24),m 26 2,o 27 (ia 2 25 26),o 28 (fa 1 27),o 29 (ld 1 28),m 6 29] r)))⟩
def VO:List (List Nat):=[]
def xy:AFunc:=⟨26,[.tmp 4],(g [W 4 kf] (q (g [m 6 0,o 7 (le 6),m 8 1,o 9 (le 8),o 10 (b .neq 7 9)] (c 10 (g [W 4 kf] r) k)) (q (g [V 5 0] (bl 0 (lo [0,1,5] (q (g [m 11 5,m 12 0,o 13 (le 12),o 14 (b .lss 11 13)] (c 14 k (e 0))) (q (bl 1 (q (.draw [m 17 0,m 18 5,o 19 (ia 2 17 18),o 20 (lg 2 19),m 21 1,m 22 5,o 23 (ia 2 21 22),o 24 (lg 2 23),o 25 (.ext (.eqA true 2 [(0,2),(1,1)] (.t 20) (.t 24)))]) (c 25 (g [W 4 kf] r) k))) (p [m 15 5,o 16 (bi .add 15 1),m 5 16])))))) (g [W 4 kt] r))))⟩
def kV:List (List Nat):=[[0,1,5]]
def tD:AFunc:=⟨26,[.tmp 4],(g [W 4 kf] (q (g [m 6 0,o 7 (le 6),m 8 1,o 9 (le 8),o 10 (b .neq 7 9)] (c 10 (g [W 4 kf] r) k)) (q (g [V 5 0] (bl 0 (lo [0,1,5] (q (g [m 11 5,m 12 0,o 13 (le 12),o 14 (b .lss 11 13)] (c 14 k (e 0))) (q (bl 1 (q (.draw [m 17 0,m 18 5,o 19 (ia 4 17 18),o 20 (lg 4 19),m 21 1,m 22 5,o 23 (ia 4 21 22),o 24 (lg 4 23),o 25 (.ext (.eqA true 4 [(0,1),(1,1),(2,1),(3,1)] (.t 20) (.t 24)))]) (c 25 (g [W 4 kf] r) k))) (p [m 15 5,o 16 (bi .add 15 1),m 5 16])))))) (g [W 4 kt] r))))⟩
def VX:List (List Nat):=[[0,1,5]]
def tB:AFunc:=⟨26,[.tmp 4],(g [W 4 kf] (q (g [m 6 0,o 7 (le 6),m 8 1,o 9 (le 8),o 10 (b .neq 7 9)] (c 10 (g [W 4 kf] r) k)) (q (g [V 5 0] (bl 0 (lo [0,1,5] (q (g [m 11 5,m 12 0,o 13 (le 12),o 14 (b .lss 11 13)] (c 14 k (e 0))) (q (bl 1 (q (.draw [m 17 0,m 18 5,o 19 (ia 2 17 18),o 20 (lg 2 19),m 21 1,m 22 5,o 23 (ia 2 21 22),o 24 (lg 2 23),o 25 (.ext (.eqA true 2 [(0,1),(1,1)] (.t 20) (.t 24)))]) (c 25 (g [W 4 kf] r) k))) (p [m 15 5,o 16 (bi .add 15 1),m 5 16])))))) (g [W 4 kt] r))))⟩
def VU:List (List Nat):=[[0,1,5]]
def ur:AFunc:=⟨30,[.tmp 4,.tmp 5],(g [o 2 (bx 3 0),V 4 0,V 5 0] (g [o 9 (lg 3 2),m 10 1,o 11 (cg yU [9,10]),m 8 11,o 12 (ex 8 0),o 13 (ex 8 1),m 6 12,m 7 13] (q (q (.draw [m 14 7,o 15 (bi .eql 14 0),m 16 15,y 17 16 (lg 3 2),y 18 16 (mt 1),y 19 16 (cg ud [17,18]),y 20 16 (fa 2 2),⟨(some 21),.load false 1 (.t 20),(some (16,true)),true⟩,y 22 16 (mt 1),y 23 16 (ia 7 21 22),⟨(some 24),.load true 7 (.t 23),(some (16,true)),true⟩,y 25 16 (cg vt [19,24]),y 26 16 (.un .not (.t 25)),o 27 (pf 16 26)]) (c 27 (g [V 4 (-1),V 5 32] r) k)) (g [m 28 6,m 29 7,m 4 28,m 5 29] r))))⟩
def Wx:List (List Nat):=[]
def yh:AFunc:=⟨251,[.tmp 6],(g [o 3 (bx 3 0),o 5 (bx 4 2),W 6 kf] (q (.draw [o 13 (lg 3 3),m 14 1,o 15 (fa 1 5),o 16 (ld 1 15),o 17 (cg zC [13,14,16]),w 18 (lg 3 3),m 19 1,o 20 (fa 2 5),w 21 (ld 1 20),o 22 (cg zC [18,19,21]),w 23 (lg 3 3),m 24 1,o 25 (fa 3 5),w 26 (ld 1 25),o 27 (cg zC [23,24,26]),m 7 17,m 8 22,m 9 27]) (q (.draw [o 28 (lg 3 3),m 29 7,o 30 (cg zy [28,29]),w 31 (lg 3 3),m 32 8,o 33 (cg zy [31,32]),w 34 (lg 3 3),m 35 9,o 36 (cg zy [34,35]),m 10 30,m 11 33,m 12 36]) (q (g [o 37 (fa 0 5),o 38 (ld 1 37)] (bl 0 (q (g [o 40 (bu .eql 38 1),m 39 40] (c 39 k (p [o 41 (bu .eql 38 32),m 39 41]))) (c 39 (g [m 42 10,o 43 (bu .eql 42 2),m 6 43] r) (g [o 45 (bu .eql 38 2),m 44 45] (c 44 (g [m 46 10,o 47 (bu .eql 46 3),m 6 47] r) (q (g [o 49 (bu .eql 38 3),m 48 49] (c 48 k (p [o 50 (bu .eql 38 23),m 48 50]))) (c 48 (g [m 51 10,o 52 (bu .eql 51 1),m 6 52] r) (g [o 54 (bu .eql 38 5),m 53 54] (c 53 (g [m 55 7,m 56 8,o 57 (b .eql 55 56),m 6 57] r) (q (g [o 59 (bu .eql 38 6),m 58 59] (c 58 k (g [o 60 (bu .eql 38 7),m 58 60] (c 58 k (g [o 61 (bu .eql 38 8),m 58 61] (c 58 k (p [o 62 (bu .eql 38 9),m 58 62]))))))) (c 58 (g [m 63 10,o 64 (bu .eql 63 2),m 65 64,y 66 65 (mt 11),y 67 65 (bu .eql 66 2),o 68 (pf 65 67),m 69 68,y 70 69 (mt 12),y 71 69 (bu .eql 70 2),o 72 (pf 69 71),m 6 72] r) (g [o 74 (bu .eql 38 10),m 73 74] (c 73 (g [m 75 10,o 76 (bu .eql 75 1),m 77 76,y 78 77 (mt 11),y 79 77 (bu .eql 78 2),o 80 (pf 77 79),m 81 80,y 82 81 (mt 12),y 83 81 (bu .eql 82 2),o 84 (pf 81 83),m 6 84] r) (g [o 86 (bu .eql 38 11),m 85 86] (c 85 (g [m 87 10,o 88 (bu .eql 87 1),m 89 88,y 90 89 (mt 8),y 91 89 (mt 9),y 92 89 (b .eql 90 91),o 93 (pf 89 92),m 94 93,y 95 94 (fa 0 3),y 96 94 (ld 1 95),y 97 94 (mt 8),y 98 94 (ia 4 96 97),y 99 94 (lg 4 98),y 100 94 (cg xZ [99]),o 101 (pf 94 100),m 6 101] r) (g [o 103 (bu .eql 38 12),m 102 103] (c 102 (g [m 104 10,o 105 (bu .eql 104 1),m 106 105,y 107 106 (mt 11),y 108 106 (bu .eql 107 1),o 109 (pf 106 108),m 6 109] r) (g [o 111 (bu .eql 38 13),m 110 111] (c 110 (g [o 112 (lg 3 3),m 113 8,o 114 (fa 3 5),o 115 (ld 1 114),o 116 (cg xh [112,113,115]),m 117 7,o 118 (b .eql 116 117),m 6 118] r) (g [o 120 (bu .eql 38 14),m 119 120] (c 119 (g [o 121 (lg 3 3),m 122 7,o 123 (fa 2 5),o 124 (ld 1 123),o 125 (cg xh [121,122,124]),m 126 9,o 127 (b .eql 125 126),m 6 127] r) (g [o 129 (bu .eql 38 15),m 128 129] (c 128 (g [m 130 10,o 131 (bu .eql 130 4),m 6 131] r) (g [o 133 (bu .eql 38 16),m 132 133] (c 132 (g [o 134 (lg 3 3),m 135 8,o 136 (cf yQ [(.t 134),(.t 135),(ku 4),(ku 4)]),m 137 7,o 138 (b .eql 136 137),m 6 138] r) (g [o 140 (bu .eql 38 17),m 139 140] (c 139 (g [o 141 (lg 3 3),m 142 7,o 143 (cf yQ [(.t 141),(.t 142),(ku 4),(ku 4)]),m 144 8,o 145 (b .eql 143 144),m 6 145] r) (g [o 147 (bu .eql 38 18),m 146 147] (c 146 (g [m 148 10,o 149 (bu .eql 148 7),m 150 149,y 151 150 (mt 11),y 152 150 (bu .eql 151 2),o 153 (pf 150 152),m 6 153] r) (g [o 155 (bu .eql 38 19),m 154 155] (c 154 (g [o 156 (lg 3 3),m 157 8,o 158 (cf yQ [(.t 156),(.t 157),(ku 7),(ku 6)]),m 159 7,o 160 (b .eql 158 159),m 161 160,y 162 161 (mt 12),y 163 161 (bu .eql 162 2),o 164 (pf 161 163),m 6 164] r) (g [o 166 (bu .eql 38 20),m 165 166] (c 165 (g [o 167 (lg 3 3),m 168 7,o 169 (cf yQ [(.t 167),(.t 168),(ku 7),(ku 6)]),m 170 9,o 171 (b .eql 169 170),m 172 171,y 173 172 (mt 11),y 174 172 (bu .eql 173 2),o 175 (pf 172 174),m 6 175] r) (g [o 177 (bu .eql 38 21),m 176 177] (c 176 (g [m 178 10,o 179 (bu .eql 178 2),m 180 179,y 181 180 (mt 11),y 182 180 (bu .eql 181 3),y 183 180 (mt 182),z 184 183 (mt 11),z 185 183 (bu .eql 184 7),y 186 180 (pt 183 185),y 187 180 (mt 186),z 188 187 (mt 11),z 189 187 (bu .eql 188 6),y 190 180 (pt 187 189),o 191 (pf 180 190),m 6 191] r) (g [o 193 (bu .eql 38 25),m 192 193] (c 192 (g [o 194 (fa 1 5),o 195 (ld 1 194),o 196 (bi .eql 195 (-1)),m 197 196,z 198 197 (fa 2 3),z 199 197 (ld 1 198),z 200 197 (fa 2 5),z 201 197 (ld 1 200),z 202 197 (ia 7 199 201),z 203 197 (fa 2 202),z 204 197 (ld 1 203),z 205 197 (mt 7),z 206 197 (b .eql 204 205),o 207 (pt 197 206),m 6 207] r) (q (g [o 209 (bu .eql 38 26),m 208 209] (c 208 k (p [o 210 (bu .eql 38 27),m 208 210]))) (c 208 (g [o 211 (lg 3 3),o 212 (fa 1 5),o 213 (ld 1 212),o 214 (cg uT [211,213]),m 6 214] r) (g [o 216 (bu .eql 38 28),m 215 216] (c 215 (g [m 217 10,o 218 (bu .eql 217 2),m 219 218,z 220 219 (mt 10),z 221 219 (bu .eql 220 1),o 222 (pt 219 221),m 223 222,z 224 223 (mt 10),z 225 223 (bu .eql 224 3),o 226 (pt 223 225),m 6 226] r) (q (g [o 228 (bu .eql 38 29),m 227 228] (c 227 k (p [o 229 (bu .eql 38 33),m 227 229]))) (c 227 (g [m 230 10,o 231 (bu .eql 230 1),m 232 231,y 233 232 (mt 11),y 234 232 (bu .eql 233 2),o 235 (pf 232 234),m 6 235] r) (g [o 237 (bu .eql 38 34),m 236 237] (c 236 (g [o 238 (fa 1 5),o 239 (ld 1 238),o 240 (bi .eql 239 (-1)),m 241 240,z 242 241 (fa 2 3),z 243 241 (ld 1 242),z 244 241 (mt 1),z 245 241 (ia 7 243 244),z 246 241 (fa 2 245),z 247 241 (ld 1 246),z 248 241 (mt 7),z 249 241 (b .eql 247 248),o 250 (pt 241 249),m 6 250] r) k)))))))))))))))))))))))))))))))))))))))))))))) (g [W 6 kt] r)))))⟩
def Wy:List (List Nat):=[]
def yS:AFunc:=⟨120,[.tmp 4,.tmp 5],(g [o 2 (bx 3 0),V 4 0,V 5 0] (g [o 18 (fa 2 2),o 19 (ld 1 18),m 20 1,o 21 (ia 7 19 20),o 22 (lg 7 21),o 6 (.alloc [.str [],iz,iz,.nils,.nils,.nils,.nils]),s 7 6 (.t 22)] (q (g [o 23 (fa 4 6),o 24 (ld 1 23),o 25 (cg xN [24]),o 26 (bi .neq 25 0)] (c 26 (g [V 4 (-1),V 5 12] r) k)) (q (g [m 27 1,o 28 (bi .eql 27 0),m 29 28,y 30 29 (fa 1 6),y 31 29 (ld 1 30),y 32 29 (bi .neq 31 0),y 33 29 (mt 32),z 34 33 (fa 2 6),z 35 33 (ld 1 34),z 36 33 (bi .neq 35 (-1)),y 37 29 (pt 33 36),o 38 (pf 29 37)] (c 38 (g [V 4 (-1),V 5 30] r) k)) (q (.draw [o 39 (fa 4 6),o 40 (ld 1 39),o 41 (cg vA [40]),o 42 (fa 4 6),w 43 (ld 1 42),o 44 (le 43),o 45 (bi .sub 44 1),m 7 41,m 8 45]) (q (g [V 9 0] (bl 0 (lo [1,2,6,7,8,9] (q (g [m 46 9,o 47 (fa 4 6),o 48 (ld 1 47),o 49 (le 48),o 50 (b .lss 46 49)] (c 50 k (e 0))) (q (bl 1 (q (.draw [o 53 (lg 3 2),m 54 1,m 55 9,m 56 7,m 57 9,o 58 (ia 1 56 57),o 59 (ld 1 58),m 60 59,z 61 60 (mt 9),z 62 60 (mt 8),z 63 60 (b .eql 61 62),o 64 (pt 60 63),o 65 (cg xi [53,54,55,64]),m 10 65]) (g [m 66 10,o 67 (bi .neq 66 0)] (c 67 (g [m 68 9,m 69 10,m 4 68,m 5 69] r) k)))) (p [m 51 9,o 52 (bi .add 51 1),m 9 52])))))) (q (g [o 71 (lg 3 2),m 72 1,o 73 (cg x7 [71,72]),m 70 73,o 74 (ex 70 0),o 75 (ex 70 1),m 11 74,m 12 75] (g [m 76 12,o 77 (.un .not (.t 76))] (c 77 (g [V 4 (-1),V 5 36] r) k))) (g [o 78 (fa 4 6),o 79 (ld 1 78),o 80 (fa 1 6),o 81 (ld 1 80),o 82 (fa 3 6),o 83 (ld 1 82),o 84 (le 83),o 85 (cg va [79,81,84]),m 13 85] (q (g [V 14 0] (bl 2 (lo [6,13,14] (q (g [m 86 14,o 87 (fa 4 6),o 88 (ld 1 87),o 89 (le 88),o 90 (b .lss 86 89)] (c 90 k (e 2))) (q (bl 3 (g [o 94 (fa 4 6),o 95 (ld 1 94),m 96 14,o 97 (ia 4 95 96),o 98 (lg 4 97),o 99 (cg yw [98]),m 93 99,o 100 (ex 93 0),o 101 (ex 93 1),m 15 100,m 16 101] (g [V 17 0] (bl 4 (lo [6,13,14,15,17] (q (g [m 102 17,m 103 15,o 104 (le 103),o 105 (b .lss 102 104)] (c 105 k (e 4))) (q (bl 5 (q (.draw [m 108 13,m 109 14,o 110 (ia 1 108 109),o 111 (ld 1 110),m 112 15,m 113 17,o 114 (ia 1 112 113),o 115 (ld 1 114),o 116 (b .shr 111 115),o 117 (.bin .rem (.t 116) (.c (.int .u64 (2)))),o 118 (.bin .eql (.t 117) (.c (.int .u64 (0))))]) (c 118 (g [m 119 14,m 4 119,V 5 38] r) k))) (p [m 106 17,o 107 (bi .add 106 1),m 17 107])))))))) (p [m 91 14,o 92 (bi .add 91 1),m 14 92])))))) (g [V 4 0,V 5 0] r))))))))))⟩
def ZI:List (List Nat):=[[1,2,6,7,8,9],[6,13,14],[6,13,14,15,17]]
def vW:AFunc:=⟨52,[.cell 4 true 7],(g [o 2 (bx 3 0),o 4 (.alloc [.str [],iz,iz,.nils,.nils,.nils,.nils])] (g [o 10 (lg 3 2),o 11 (cg tL [10]),o 12 (.field false 1 2 (.t 11)),m 13 1,o 14 (ia 7 12 13),o 15 (lg 7 14),o 5 (.alloc [.str [],iz,iz,.nils,.nils,.nils,.nils]),s 7 5 (.t 15)] (g [o 17 (lg 3 2),m 18 1,o 19 (cg x7 [17,18]),m 16 19,o 20 (ex 16 0),o 21 (ex 16 1),m 6 20,m 7 21] (g [W 8 kn] (q (g [V 9 0] (bl 0 (lo [2,4,5,6,8,9] (q (g [m 22 9,m 23 6,o 24 (le 23),o 25 (b .lss 22 24)] (c 25 k (e 0))) (q (bl 1 (.draw [m 28 8,o 29 (lg 3 2),m 30 6,m 31 9,o 32 (ia 1 30 31),o 33 (ld 1 32),o 34 (cg yJ [29,33]),o 35 (.conv .u64 (.t 34)),o 36 (li 1 [35]),o 37 (ap 1 8 28 36),m 8 37])) (p [m 26 9,o 27 (bi .add 26 1),m 9 27])))))) (g [m 38 8,o 39 (cg yZ [38]),o 40 (fa 5 5),s 1 40 (.t 39)] (g [o 41 (fa 4 5),o 42 (ld 1 41),o 43 (fa 1 5),o 44 (ld 1 43),o 45 (fa 3 5),o 46 (ld 1 45),o 47 (le 46),o 48 (cg va [42,44,47]),o 49 (cg yZ [48]),o 50 (fa 6 5),s 1 50 (.t 49)] (g [o 51 (lg 7 5),s 7 4 (.t 51)] r))))))))⟩
def X6:List (List Nat):=[[2,4,5,6,8,9]]
def u5:AFunc:=⟨13,[.tmp 2],(g [W 2 kf] (g [m 3 0,o 4 (bu .eql 3 110),m 5 4,z 6 5 (mt 0),z 7 5 (bu .eql 6 103),o 8 (pt 5 7),m 9 8,z 10 9 (mt 0),z 11 9 (bu .eql 10 101),o 12 (pt 9 11),m 2 12] r))⟩
def Xf:List (List Nat):=[]
def Za:AFunc:=⟨53,[.tmp 2,.tmp 3],(g [o 1 (bx 3 0),W 2 kn,V 3 0] (q (g [o 10 (lg 3 1),o 11 (cg kA [10]),o 12 (.un .not (.t 11))] (c 12 (g [W 2 kn,V 3 8] r) k)) (g [o 4 (.alloc [.nils])] (g [o 13 (fa 0 1),o 14 (ld 1 13),o 15 (cg vc [4,14])] (g [o 16 (fa 1 1),o 17 (ld 1 16),o 18 (le 17),o 19 (cg zp [4,18])] (q (g [o 20 (fa 1 1),o 21 (ld 1 20),o 22 (le 21),V 23 0] (bl 0 (lo [1,4,21,22,23] (g [o 24 (b .lss 23 22)] (q (c 24 k (e 0)) (q (bl 1 (g [o 25 (ia 1 21 23),o 26 (ld 1 25),m 6 26] (p [m 27 6,o 28 (cg yH [4,27])]))) (p [o 29 (bi .add 23 1),m 23 29]))))))) (g [o 30 (fa 2 1),o 31 (ld 1 30),o 32 (le 31),o 33 (cg zp [4,32])] (q (g [o 34 (fa 2 1),o 35 (ld 1 34),o 36 (le 35),V 37 0] (bl 2 (lo [4,35,36,37] (g [o 38 (b .lss 37 36)] (q (c 38 k (e 2)) (q (bl 3 (g [o 39 (ia 7 35 37),o 40 (lg 7 39),o 8 (.alloc [.str [],iz,iz,.nils,.nils,.nils,.nils]),s 7 8 (.t 40)] (g [o 41 (lg 7 8),o 42 (cg x8 [4,41]),m 9 42] (g [m 43 9,o 44 (bi .neq 43 0)] (c 44 (g [m 45 9,W 2 kn,m 3 45] r) k))))) (p [o 46 (bi .add 37 1),m 37 46]))))))) (q (g [o 47 (fa 0 4),o 48 (ld 1 47),o 49 (le 48),o 50 (bi .gtr 49 20000)] (c 50 (g [W 2 kn,V 3 4] r) k)) (g [o 51 (fa 0 4),o 52 (ld 1 51),m 2 52,V 3 0] r))))))))))⟩
def z1G:List (List Nat):=[[1,4,21,22,23],[4,35,36,37]]
def j4:AFunc:=⟨23,[.tmp 2,.tmp 3],(g [W 2 kn,V 3 0] (q (g [m 6 0,o 7 (cg vd [6]),m 4 7] (g [m 8 4,o 9 (bi .neq 8 0)] (c 9 (g [m 10 4,W 2 kn,m 3 10] r) k))) (g [m 11 0,o 12 (le 11),o 13 (.make 1 1 [.bool false] (.t 12) (.t 12)),o 5 (.alloc [.nils]),s 1 5 (.t 13)] (g [m 14 0,o 15 (.mkfn (.func vN) [] [(.t 5)]),o 16 (cg qr [14,15])] (g [o 17 (ld 1 5),o 18 (ld 1 5),o 19 (le 18),o 20 (bi .sub 19 1),o 21 (ia 1 17 20),s 1 21 kt] (g [o 22 (ld 1 5),m 2 22,V 3 0] r))))))⟩
def z1H:List (List Nat):=[]
def vo:AFunc:=⟨136,[.tmp 2,.tmp 3],(g [o 1 (bx 10 0),W 2 kn,W 3 kf] (g [o 20 (fa 3 1),o 21 (fa 4 20),o 22 (ld 1 21),m 4 22] (q (.draw [m 23 4,o 24 (le 23),o 25 (.make 1 24 [.nils] (.t 24) (.t 24)),m 26 4,o 27 (le 26),o 28 (.make 1 1 [.bool false] (.t 27) (.t 27)),m 5 25,m 6 28]) (g [m 29 6,o 30 (.iaddr 1 (.t 29) (ki 0)),s 1 30 kt] (q (g [o 31 (.ext (.litB 1 [(ki 0)])),m 7 31] (bl 0 (lo [1,4,5,6,7] (q (g [m 32 7,o 33 (le 32),o 34 (bi .gtr 33 0)] (c 34 k (e 0))) (bl 1 (g [m 35 7,m 36 7,o 37 (le 36),o 38 (bi .sub 37 1),o 39 (ia 1 35 38),o 40 (ld 1 39),m 8 40] (g [m 41 7,m 42 7,o 43 (le 42),o 44 (bi .sub 43 1),o 45 (.slice 1 (.t 41) none (some (.t 44)) none),m 7 45] (q (.draw [o 47 (lg 10 1),m 48 4,m 49 8,o 50 (ia 4 48 49),o 51 (lg 4 50),m 52 5,m 53 8,o 54 (ia 1 52 53),o 55 (ld 1 54),o 56 (cg t8 [47,51,55]),m 46 56,o 57 (ex 46 0),o 58 (ex 46 1),m 9 57,m 10 58]) (g [m 60 4,m 61 8,o 62 (cg Uw [60,61]),m 59 62,o 63 (ex 59 0),o 64 (ex 59 1),m 11 63,m 12 64] (q (g [m 65 10,o 66 (.un .not (.t 65)),m 67 66,z 68 67 (mt 12),z 69 67 (bi .neq 68 0),o 70 (pt 67 69)] (c 70 (g [W 2 kn,W 3 kf] r) k)) (g [m 71 11,o 72 (le 71),V 73 0] (bl 2 (lo [1,4,5,6,7,9,71,72,73] (g [o 74 (b .lss 73 72)] (q (c 74 k (e 2)) (q (bl 3 (g [o 75 (ia 1 71 73),o 76 (ld 1 75),m 14 76] (bl 4 (g [m 78 6,m 79 14,o 80 (ia 1 78 79),o 81 (ld 1 80),o 82 (.un .not (.t 81)),m 77 82] (c 77 (p [m 83 5,m 84 14,m 85 6,m 86 14,m 87 9,m 88 7,m 89 14,o 90 (li 1 [89]),o 91 (ap 1 8 88 90),o 92 (ia 1 83 84),s 1 92 (.t 87),o 93 (ia 1 85 86),s 1 93 kt,m 7 91]) (g [m 95 5,m 96 14,o 97 (ia 1 95 96),o 98 (ld 1 97),m 99 9,o 100 (cg ug [98,99]),o 101 (.un .not (.t 100)),m 94 101] (c 94 (g [W 2 kn,W 3 kf] r) k))))))) (p [o 102 (bi .add 73 1),m 73 102]))))))))))))))))) (g [m 103 4,o 104 (le 103),o 105 (.make 1 8 [.int .u64 (0)] (.t 104) (.t 104)),m 15 105] (q (g [m 106 5,o 107 (le 106),V 108 0] (bl 5 (lo [1,4,5,15,106,107,108] (g [o 109 (b .lss 108 107)] (q (c 109 k (e 5)) (q (bl 6 (g [m 110 108,o 111 (ia 1 106 108),o 112 (ld 1 111),m 16 110,m 17 112] (g [o 114 (lg 10 1),m 115 17,o 116 (cg xo [114,115]),m 113 116,o 117 (ex 113 0),o 118 (ex 113 1),m 18 117,m 19 118] (q (g [m 119 19,o 120 (bi .neq 119 0)] (c 120 (g [W 2 kn,W 3 kf] r) k)) (p [m 121 15,m 122 16,m 123 18,o 124 (.conv .u64 (.t 123)),o 125 (ia 1 121 122),s 1 125 (.t 124)]))))) (p [o 126 (bi .add 108 1),m 108 126]))))))) (q (.draw [m 127 15,m 128 5,m 129 4,o 130 (le 129),o 131 (bi .sub 130 1),o 132 (ia 1 128 131),o 133 (ld 1 132),o 134 (le 133),o 135 (bi .eql 134 0),m 2 127,m 3 135]) r))))))))⟩
def ZS:List (List Nat):=[[1,4,5,6,7],[1,4,5,6,7,9,71,72,73],[1,4,5,15,106,107,108],[777777,31]]
def XP:AFunc:=⟨87,[.tmp 6,.tmp 7],(g [o 4 (bx 1 1),W 6 kn,V 7 0] (q (g [m 17 0,o 18 (cg vd [17]),m 8 18] (g [m 19 8,o 20 (bi .neq 19 0)] (c 20 (g [m 21 8,W 6 kn,m 7 21] r) k))) (q (g [m 22 2,o 23 (bi .lss 22 0),m 24 23,z 25 24 (mt 2),z 26 24 (bi .gtr 25 16),o 27 (pt 24 26),m 28 27,z 29 28 (ld 1 4),z 30 28 (bi .lss 29 0),o 31 (pt 28 30),m 32 31,z 33 32 (ld 1 4),z 34 32 (mt 2),z 35 32 (b .gtr 33 34),o 36 (pt 32 35)] (c 36 (g [W 6 kn,V 7 2] r) k)) (g [m 37 0,o 38 (le 37),o 39 (.make 1 8 [.int .u64 (0)] (.t 38) (.t 38)),o 9 (.alloc [.nils]),s 1 9 (.t 39)] (q (g [m 40 0,o 41 (le 40),V 42 0] (bl 0 (lo [0,2,4,9,40,41,42] (g [o 43 (b .lss 42 41)] (q (c 43 k (e 0)) (q (bl 1 (g [m 44 42,o 45 (ia 4 40 42),o 46 (lg 4 45),o 11 (.alloc [.int .u8 (0),iz,iz,iz]),m 10 44,s 4 11 (.t 46)] (g [o 48 (lg 4 11),o 49 (cg jS [48]),m 47 49,o 50 (ex 47 0),o 51 (ex 47 1),o 52 (ex 47 2),m 12 50,m 13 51,m 14 52] (q (g [m 53 14,o 54 (bi .neq 53 0)] (c 54 (g [m 55 14,W 6 kn,m 7 55] r) k)) (q (.draw [w 56 (ld 1 9),m 57 10,m 58 13,o 59 (cg Zr [58]),o 60 (ia 1 56 57),s 1 60 (.t 59)]) (q (.draw [m 61 12,o 62 (cg Zr [61]),w 63 (ld 1 9),m 64 10,o 65 (ia 1 63 64),w 66 (ld 1 65),o 67 (b .or 62 66),m 68 2,o 69 (b .shr 67 68),o 70 (.bin .neq (.t 69) (.c (.int .u64 (0))))]) (c 70 (g [W 6 kn,V 7 16] r) k))))))) (p [o 71 (bi .add 42 1),m 42 71]))))))) (q (.draw [o 15 (.alloc [.nils]),o 16 (.alloc [.nils]),m 72 0,o 73 (le 72),o 74 (.make 1 8 [.int .u64 (0)] (.t 73) (.t 73)),m 75 0,o 76 (le 75),o 77 (.make 1 1 [.bool false] (.t 76) (.t 76)),s 1 15 (.t 74),s 1 16 (.t 77)]) (g [m 78 0,o 79 (.mkfn (.func ja) [] [(.t 4),(.t 16),(.t 15),(.t 9)]),o 80 (cg qr [78,79])] (g [o 81 (ld 1 15),o 82 (ld 1 15),o 83 (le 82),o 84 (bi .sub 83 1),o 85 (ia 1 81 84),s 1 85 (.c (.int .u64 (0)))] (g [o 86 (ld 1 15),m 6 86,V 7 0] r)))))))))⟩
def z4P:List (List Nat):=[[0,2,4,9,40,41,42]]
def ZY:AFunc:=⟨43,[.tmp 2,.tmp 3],(g [W 2 kn,V 3 0] (q (g [m 7 0,o 8 (le 7),o 9 (cg tZ [8]),m 4 9] (g [m 10 4,o 11 (bi .neq 10 0)] (c 11 (g [m 12 4,W 2 kn,m 3 12] r) k))) (g [W 5 kn] (q (g [m 13 0,o 14 (le 13),V 15 0] (bl 0 (lo [0,5,14,15] (g [o 16 (b .lss 15 14)] (q (c 16 k (e 0)) (q (bl 1 (g [m 17 15,m 6 17] (q (q (.draw [m 18 6,o 19 (bi .gtr 18 0),m 20 19,y 21 20 (mt 0),y 22 20 (mt 6),y 23 20 (ia 1 21 22),y 24 20 (ld 1 23),y 25 20 (mt 0),y 26 20 (mt 6),y 27 20 (bi .sub 26 1),y 28 20 (ia 1 25 27),y 29 20 (ld 1 28),y 30 20 (b .eql 24 29),o 31 (pf 20 30)]) (c 31 (e 1) k)) (p [m 32 5,m 33 6,m 34 0,m 35 6,o 36 (ia 1 34 35),o 37 (ld 1 36),o 38 (.build [iz,.int .u64 (0)] [(0,1,(.t 33)),(1,1,(.t 37))]),o 39 (li 2 [38]),o 40 (ap 2 16 32 39),m 5 40])))) (p [o 41 (bi .add 15 1),m 15 41]))))))) (g [m 42 5,m 2 42,V 3 0] r)))))⟩
def z2Z:List (List Nat):=[[0,5,14,15]]
def uJ:AFunc:=⟨32,[.tmp 2],(g [V 2 0] (q (g [m 6 0,o 7 (le 6),o 8 (bi .gtr 7 32)] (c 8 (g [V 2 8] r) k)) (q (g [V 3 0] (bl 0 (lo [0,3] (q (g [m 9 3,m 10 0,o 11 (le 10),o 12 (b .lss 9 11)] (c 12 k (e 0))) (q (bl 1 (g [m 15 0,m 16 3,o 17 (cg tP [15,16]),o 18 (.un .not (.t 17))] (c 18 (g [V 2 8] r) k))) (p [m 13 3,o 14 (bi .add 13 1),m 3 14])))))) (g [m 19 0,o 20 (cf xm [(.t 19),(ki 3)]),m 4 20] (q (g [V 5 0] (bl 2 (lo [0,4,5] (q (g [m 21 5,m 22 0,o 23 (le 22),o 24 (b .lss 21 23)] (c 24 k (e 2))) (q (bl 3 (g [m 27 4,m 28 5,o 29 (ia 1 27 28),o 30 (ld 1 29),o 31 (bi .gtr 30 5000)] (c 31 (g [V 2 8] r) k))) (p [m 25 5,o 26 (bi .add 25 1),m 5 26])))))) (g [V 2 0] r))))))⟩
def WQ:List (List Nat):=[[0,3],[0,4,5]]
def vg:AFunc:=⟨107,[.tmp 4],(g [o 3 (bx 7 1),W 4 kf] (q (g [o 7 (fa 0 3),o 8 (ld 1 7),o 9 (cg xP [8]),o 10 (.un .not (.t 9)),m 11 10,z 12 11 (fa 3 3),z 13 11 (ld 1 12),z 14 11 (cf yE [(.t 13),(ki 16)]),z 15 11 (.un .not (.t 14)),o 16 (pt 11 15),m 17 16,z 18 17 (fa 1 3),z 19 17 (ld 1 18),z 20 17 (bi .lss 19 0),o 21 (pt 17 20),m 22 21,z 23 22 (fa 1 3),z 24 22 (ld 1 23),z 25 22 (fa 3 3),z 26 22 (ld 1 25),z 27 22 (le 26),z 28 22 (b .gtr 24 27),o 29 (pt 22 28),m 30 29,z 31 30 (fa 2 3),z 32 30 (ld 1 31),z 33 30 (bi .lss 32 (-1)),o 34 (pt 30 33),m 35 34,z 36 35 (fa 2 3),z 37 35 (ld 1 36),z 38 35 (mt 0),z 39 35 (le 38),z 40 35 (b .geq 37 39),o 41 (pt 35 40),m 42 41,z 43 42 (fa 4 3),z 44 42 (ld 1 43),z 45 42 (le 44),z 46 42 (bi .lss 45 1),o 47 (pt 42 46),m 48 47,z 49 48 (fa 4 3),z 50 48 (ld 1 49),z 51 48 (le 50),z 52 48 (bi .gtr 51 200),o 53 (pt 48 52)] (c 53 (g [W 4 kf] r) k)) (q (g [V 5 0] (bl 0 (lo [0,3,5] (q (g [m 54 5,o 55 (fa 3 3),o 56 (ld 1 55),o 57 (le 56),o 58 (b .lss 54 57)] (c 58 k (e 0))) (q (bl 1 (g [o 61 (fa 3 3),o 62 (ld 1 61),m 63 5,o 64 (ia 2 62 63),o 65 (fa 1 64),o 66 (ld 1 65),o 67 (bi .lss 66 0),m 68 67,z 69 68 (fa 3 3),z 70 68 (ld 1 69),z 71 68 (mt 5),z 72 68 (ia 2 70 71),z 73 68 (fa 1 72),z 74 68 (ld 1 73),z 75 68 (mt 0),z 76 68 (le 75),z 77 68 (b .geq 74 76),o 78 (pt 68 77)] (c 78 (g [W 4 kf] r) k))) (p [m 59 5,o 60 (bi .add 59 1),m 5 60])))))) (q (g [V 6 0] (bl 2 (lo [3,6] (q (g [m 79 6,o 80 (fa 4 3),o 81 (ld 1 80),o 82 (le 81),o 83 (b .lss 79 82)] (c 83 k (e 2))) (q (bl 3 (g [o 86 (fa 4 3),o 87 (ld 1 86),m 88 6,o 89 (ia 4 87 88),o 90 (lg 4 89),o 91 (cg xO [90]),o 92 (bi .neq 91 0)] (c 92 (g [W 4 kf] r) k))) (p [m 84 6,o 85 (bi .add 84 1),m 6 85])))))) (g [o 93 (fa 5 3),o 94 (ld 1 93),o 95 (fa 4 3),o 96 (ld 1 95),o 97 (le 96),o 98 (cg v9 [94,97]),m 99 98,y 100 99 (fa 6 3),y 101 99 (ld 1 100),y 102 99 (fa 4 3),y 103 99 (ld 1 102),y 104 99 (le 103),y 105 99 (cg v9 [101,104]),o 106 (pf 99 105),m 4 106] r)))))⟩
def ZJ:List (List Nat):=[[0,3,5],[3,6]]
def tF:AFunc:=⟨61,[.tmp 4],(g [W 4 kf] (q (g [m 5 0] (bl 0 (g [o 7 (bu .eql 5 45),m 6 7] (c 6 (g [m 8 1,o 9 (bi .eql 8 0),m 4 9] r) (q (g [o 11 (bu .eql 5 119),m 10 11] (c 10 k (p [o 12 (bu .eql 5 114),m 10 12]))) (c 10 (g [m 13 1,o 14 (bi .geq 13 0),m 15 14,y 16 15 (mt 1),y 17 15 (bi .lss 16 16),o 18 (pf 15 17),m 4 18] r) (q (g [o 20 (bu .eql 5 103),m 19 20] (c 19 k (p [o 21 (bu .eql 5 101),m 19 21]))) (c 19 (g [m 22 1,o 23 (bi .geq 22 (-1)),m 24 23,y 25 24 (mt 1),y 26 24 (bi .lss 25 16),o 27 (pf 24 26),m 4 27] r) (q (g [o 29 (bu .eql 5 116),m 28 29] (c 28 k (p [o 30 (bu .eql 5 99),m 28 30]))) (c 28 (g [m 31 1,o 32 (bi .geq 31 0),m 33 32,y 34 33 (mt 1),y 35 33 (bi .lss 34 32),o 36 (pf 33 35),m 4 36] r) (g [o 38 (bu .eql 5 98),m 37 38] (c 37 (g [m 39 1,o 40 (bi .geq 39 0),m 41 40,y 42 41 (mt 1),y 43 41 (bi .lss 42 2),o 44 (pf 41 43),m 4 44] r) (g [o 46 (bu .eql 5 102),m 45 46] (c 45 (g [m 47 1,o 48 (bi .geq 47 0),m 49 48,y 50 49 (mt 1),y 51 49 (bi .lss 50 8),o 52 (pf 49 51),m 4 52] r) (g [o 54 (bu .eql 5 105),m 53 54] (c 53 (g [m 55 1,o 56 (bi .geq 55 0),m 57 56,y 58 57 (mt 1),y 59 57 (bi .lss 58 200),o 60 (pf 57 59),m 4 60] r) k)))))))))))))))) (g [W 4 kt] r)))⟩
def VZ:List (List Nat):=[]
def vl:AFunc:=⟨13,[.tmp 4],(g [W 4 kf] (g [m 5 1,o 6 (bi .geq 5 0),m 7 6,y 8 7 (mt 1),y 9 7 (mt 0),y 10 7 (le 9),y 11 7 (b .lss 8 10),o 12 (pf 7 11),m 4 12] r))⟩
def ZP:List (List Nat):=[]
def Zc:AFunc:=⟨14,[.tmp 2],(g [o 1 (bx 4 0),V 2 0] (q (g [o 3 (fa 0 1),o 4 (ld 1 3)] (bl 0 (g [o 6 (bu .eql 4 25),m 5 6] (c 5 (g [o 7 (fa 2 1),o 8 (ld 1 7),m 2 8] r) (q (g [o 10 (bu .eql 4 26),m 9 10] (c 9 k (p [o 11 (bu .eql 4 27),m 9 11]))) (c 9 (g [o 12 (fa 1 1),o 13 (ld 1 12),m 2 13] r) k)))))) (g [V 2 (-1)] r)))⟩
def z1K:List (List Nat):=[]
def uN:AFunc:=⟨13,[.tmp 4],(g [W 4 kf] (g [m 5 1,o 6 (bi .geq 5 0),m 7 6,y 8 7 (mt 1),y 9 7 (mt 0),y 10 7 (le 9),y 11 7 (b .lss 8 10),o 12 (pf 7 11),m 4 12] r))⟩
def WY:List (List Nat):=[]
def vn:AFunc:=⟨8,[.tmp 3],(g [W 3 kf] (g [m 4 0,o 5 (.mkfn (.func zK) [] [(.t 1)]),o 6 (cg zN [4,5]),o 7 (.un .not (.t 6)),m 3 7] r))⟩
def ZR:List (List Nat):=[]
def yf:AFunc:=⟨9,[.tmp 4],(g [W 4 kf] (g [m 5 0,m 6 1,o 7 (cg yF [5,6]),o 8 (bi .geq 7 0),m 4 8] r))⟩
def jL:List (List Nat):=[]
def xA:AFunc:=⟨9,[.tmp 3],(g [W 3 kf] (g [o 4 (lg 10 1),m 5 0,o 6 (.lit 1 [(ku 2)]),o 7 (cg zu [4,5,6]),o 8 (.un .not (.t 7)),m 3 8] r))⟩
def kZ:List (List Nat):=[]
def qh:AFunc:=⟨20,[.tmp 6],(g [o 3 (bx 10 0),W 6 kf] (g [m 7 1,o 8 (bi .geq 7 0),m 9 8,y 10 9 (mt 2),y 11 9 (fa 0 3),y 12 9 (fa 0 11),y 13 9 (ld 1 12),y 14 9 (mt 1),y 15 9 (ia 4 13 14),y 16 9 (fa 0 15),y 17 9 (ld 1 16),y 18 9 (cg x5 [10,17]),o 19 (pf 9 18),m 6 19] r))⟩
def UV:List (List Nat):=[]
def vm:AFunc:=⟨8,[.tmp 3],(g [W 3 kf] (g [o 4 (lg 10 1),m 5 0,o 6 (.lit 1 [(ku 1)]),o 7 (cg zu [4,5,6]),m 3 7] r))⟩
def ZQ:List (List Nat):=[]
def vJ:AFunc:=⟨39,[.tmp 8],(g [o 4 (bx 10 0),W 8 kf] (g [o 9 (lg 10 4),m 10 1,o 11 (.lit 1 [(ku 5)]),o 12 (cg zu [9,10,11]),m 13 12,y 14 13 (fa 0 4),y 15 13 (fa 0 14),y 16 13 (ld 1 15),y 17 13 (mt 1),y 18 13 (ia 4 16 17),y 19 13 (fa 3 18),y 20 13 (ld 1 19),y 21 13 (mt 2),y 22 13 (cg yq [20,21]),o 23 (pf 13 22),m 24 23,y 25 24 (fa 0 4),y 26 24 (fa 0 25),y 27 24 (ld 1 26),y 28 24 (mt 1),y 29 24 (ia 4 27 28),y 30 24 (fa 3 29),y 31 24 (ld 1 30),y 32 24 (mt 2),y 33 24 (ia 2 31 32),y 34 24 (fa 1 33),y 35 24 (ld 1 34),y 36 24 (mt 3),y 37 24 (b .eql 35 36),o 38 (pf 24 37),m 8 38] r))⟩
def Yt:List (List Nat):=[]
def uQ:AFunc:=⟨24,[.tmp 8],(g [o 4 (bx 10 0),W 8 kf] (g [o 9 (lg 10 4),m 10 1,m 11 3,o 12 (cg zu [9,10,11]),m 13 12,y 14 13 (fa 0 4),y 15 13 (fa 0 14),y 16 13 (ld 1 15),y 17 13 (mt 1),y 18 13 (ia 4 16 17),y 19 13 (fa 1 18),y 20 13 (ld 1 19),y 21 13 (mt 2),y 22 13 (b .eql 20 21),o 23 (pf 13 22),m 8 23] r))⟩
def V2:List (List Nat):=[]
def ub:AFunc:=⟨29,[.tmp 4],(g [o 2 (bx 10 0),o 3 (bx 7 1),W 4 kf] (g [o 6 (.mkfn (.func vy) [] [(.t 2)]),m 5 6] (g [o 7 (fa 2 3),o 8 (ld 1 7),o 9 (bi .lss 8 0),m 10 9,y 11 10 (fa 1 3),y 12 10 (ld 1 11),y 13 10 (bi .eql 12 0),y 14 10 (mt 13),z 15 14 (fa 1 3),z 16 14 (ld 1 15),z 17 14 (bi .eql 16 1),z 18 14 (mt 17),y 19 18 (mt 5),y 20 18 (fa 3 3),y 21 18 (ld 1 20),y 22 18 (.iaddr 2 (.t 21) (ki 0)),y 23 18 (fa 1 22),y 24 18 (ld 1 23),y 25 18 (.call (.t 19) [(.t 24)]),z 26 14 (pf 18 25),y 27 10 (pt 14 26),o 28 (pf 10 27),m 4 28] r)))⟩
def Xp:List (List Nat):=[]
def Us:AFunc:=⟨36,[.tmp 2],(g [o 1 (bx 4 0),V 2 0] (g [o 8 (fa 0 1),o 9 (ld 1 8),o 10 (cg jR [9]),m 7 10,o 11 (ex 7 0),o 12 (ex 7 1),o 3 (.alloc [iz,iz,.bool false,.bool false,iz,iz,.bool false,.bool false,iz,iz,.bool false,.bool false]),s 12 3 (.t 11),m 4 12] (q (g [m 13 4,o 14 (bi .lss 13 0)] (c 14 (g [V 2 8] r) k)) (q (g [o 15 (lg 4 1),o 16 (cg tR [15]),V 17 0] (bl 0 (lo [3,16,17] (g [o 18 (bi .lss 17 3)] (q (c 18 k (e 0)) (q (bl 1 (g [m 19 17,o 20 (.indexA 3 1 false (.t 16) (.t 17)),m 5 19,m 6 20] (g [m 21 6,m 22 5,o 23 (.iaddrA 3 4 (.t 3) (.t 22)),o 24 (fa 0 23),o 25 (ld 1 24),o 26 (b .lss 21 25),m 27 26,z 28 27 (mt 6),z 29 27 (mt 5),z 30 27 (.iaddrA 3 4 (.t 3) (.t 29)),z 31 27 (fa 1 30),z 32 27 (ld 1 31),z 33 27 (b .gtr 28 32),o 34 (pt 27 33)] (c 34 (g [V 2 8] r) k)))) (p [o 35 (bi .add 17 1),m 17 35]))))))) (g [V 2 0] r)))))⟩
def z68:List (List Nat):=[[3,16,17]]
def Up:AFunc:=⟨147,[.cell 2 true 12,.cell 3 false 1],(g [o 2 (.alloc [iz,iz,.bool false,.bool false,iz,iz,.bool false,.bool false,iz,iz,.bool false,.bool false]),o 3 (.alloc [iz])] (g [o 5 (.mkfn (.func zM) [] [(.t 2),(.t 3)]),m 4 5] (q (g [m 6 0] (bl 0 (q (bl 19 (q (bl 18 (q (bl 17 (q (bl 16 (q (bl 15 (q (bl 14 (q (bl 13 (q (bl 12 (q (bl 11 (q (bl 10 (q (bl 9 (q (bl 8 (q (bl 7 (q (bl 6 (q (bl 5 (q (bl 4 (q (bl 3 (q (bl 2 (q (bl 1 (q (q (q (g [o 8 (bu .eql 6 30),m 7 8] (c 7 k (p [o 9 (bu .eql 6 31),m 7 9]))) (c 7 (e 1) k)) (q (g [o 11 (bu .eql 6 1),m 10 11] (c 10 (e 2) k)) (q (g [o 13 (bu .eql 6 2),m 12 13] (c 12 (e 3) k)) (q (g [o 15 (bu .eql 6 3),m 14 15] (c 14 (e 4) k)) (q (q (g [o 17 (bu .eql 6 4),m 16 17] (c 16 k (p [o 18 (bu .eql 6 15),m 16 18]))) (c 16 (e 5) k)) (q (q (g [o 20 (bu .eql 6 6),m 19 20] (c 19 k (g [o 21 (bu .eql 6 7),m 19 21] (c 19 k (g [o 22 (bu .eql 6 8),m 19 22] (c 19 k (g [o 23 (bu .eql 6 9),m 19 23] (c 19 k (g [o 24 (bu .eql 6 10),m 19 24] (c 19 k (g [o 25 (bu .eql 6 11),m 19 25] (c 19 k (p [o 26 (bu .eql 6 19),m 19 26]))))))))))))) (c 19 (e 6) k)) (q (q (g [o 28 (bu .eql 6 5),m 27 28] (c 27 k (g [o 29 (bu .eql 6 12),m 27 29] (c 27 k (g [o 30 (bu .eql 6 16),m 27 30] (c 27 k (g [o 31 (bu .eql 6 18),m 27 31] (c 27 k (g [o 32 (bu .eql 6 21),m 27 32] (c 27 k (p [o 33 (bu .eql 6 33),m 27 33]))))))))))) (c 27 (e 7) k)) (q (g [o 35 (bu .eql 6 13),m 34 35] (c 34 (e 8) k)) (q (g [o 37 (bu .eql 6 14),m 36 37] (c 36 (e 9) k)) (q (g [o 39 (bu .eql 6 20),m 38 39] (c 38 (e 10) k)) (q (g [o 41 (bu .eql 6 17),m 40 41] (c 40 (e 11) k)) (q (g [o 43 (bu .eql 6 22),m 42 43] (c 42 (e 12) k)) (q (g [o 45 (bu .eql 6 23),m 44 45] (c 44 (e 13) k)) (q (q (g [o 47 (bu .eql 6 24),m 46 47] (c 46 k (g [o 48 (bu .eql 6 28),m 46 48] (c 46 k (p [o 49 (bu .eql 6 32),m 46 49]))))) (c 46 (e 14) k)) (q (g [o 51 (bu .eql 6 25),m 50 51] (c 50 (e 15) k)) (q (q (g [o 53 (bu .eql 6 26),m 52 53] (c 52 k (p [o 54 (bu .eql 6 27),m 52 54]))) (c 52 (e 16) k)) (q (g [o 56 (bu .eql 6 29),m 55 56] (c 55 (e 17) k)) (g [o 58 (bu .eql 6 34),m 57 58] (c 57 (e 18) k))))))))))))))))))) (e 19))) (e 0))) (g [m 59 4,o 60 (cg x6 []),o 61 (cg Uv []),o 62 (li 4 [60,61]),o 63 (.call (.t 59) [(.t 62)])] (e 0)))) (g [m 64 4,o 65 (cg x6 []),o 66 (cf xp [(ki 32)]),o 67 (li 4 [65,66]),o 68 (.call (.t 64) [(.t 67)])] (e 0)))) (g [m 69 4,o 70 (cg x6 []),o 71 (cf xp [(ki 2)]),o 72 (li 4 [70,71]),o 73 (.call (.t 69) [(.t 72)])] (e 0)))) (g [m 74 4,o 75 (cg x6 []),o 76 (li 4 [75]),o 77 (.call (.t 74) [(.t 76)])] (e 0)))) (p [o 78 (cg yu []),o 79 (.iaddrA 3 4 (.t 2) (ki 2)),s 4 79 (.t 78)]))) (q (g [o 80 (cg x6 []),o 81 (cg yu []),o 82 (.iaddrA 3 4 (.t 2) (ki 0)),s 4 82 (.t 80),o 83 (.iaddrA 3 4 (.t 2) (ki 1)),s 4 83 (.t 81),s 1 3 (ki 2)] (g [o 84 (.iaddrA 3 4 (.t 2) (ki 2)),o 85 (fa 2 84),o 86 (ld 1 85)] (c 86 (p [s 1 3 (ki 3)]) k))) (e 0)))) (g [m 87 4,o 88 (cg x6 []),o 89 (cg yu []),o 90 (cf xp [(ki 8)]),o 91 (li 4 [88,89,90]),o 92 (.call (.t 87) [(.t 91)])] (e 0)))) (g [m 93 4,o 94 (cg yu []),o 95 (cf xp [(ki 8)]),o 96 (cg yu []),o 97 (li 4 [94,95,96]),o 98 (.call (.t 93) [(.t 97)])] (e 0)))) (g [m 99 4,o 100 (cg yu []),o 101 (cg yu []),o 102 (cg yu []),o 103 (li 4 [100,101,102]),o 104 (.call (.t 99) [(.t 103)])] (e 0)))) (g [m 105 4,o 106 (cg yu []),o 107 (cg yu []),o 108 (li 4 [106,107]),o 109 (.call (.t 105) [(.t 108)])] (e 0)))) (g [m 110 4,o 111 (cf xp [(ki 200)]),o 112 (li 4 [111]),o 113 (.call (.t 110) [(.t 112)])] (e 0)))) (g [m 114 4,o 115 (cg yu []),o 116 (cf xp [(ki 200)]),o 117 (li 4 [115,116]),o 118 (.call (.t 114) [(.t 117)])] (e 0)))) (g [m 119 4,o 120 (cg yu []),o 121 (li 4 [120]),o 122 (.call (.t 119) [(.t 121)])] (e 0)))) (q (g [m 123 4,o 124 (cg x6 []),o 125 (cf xp [(ki 32)]),o 126 (li 4 [124,125]),o 127 (.call (.t 123) [(.t 126)])] (p [o 128 (.iaddrA 3 4 (.t 2) (ki 0)),o 129 (fa 0 128),s 1 129 (ki (-1))])) (e 0)))) (g [m 130 4,o 131 (cf xp [(ki 32)]),o 132 (li 4 [131]),o 133 (.call (.t 130) [(.t 132)])] (e 0)))) (g [m 134 4,o 135 (cg x6 []),o 136 (cg x6 []),o 137 (li 4 [135,136]),o 138 (.call (.t 134) [(.t 137)])] (e 0)))) (q (g [m 139 4,o 140 (cg yu []),o 141 (li 4 [140]),o 142 (.call (.t 139) [(.t 141)])] (p [o 143 (.iaddrA 3 4 (.t 2) (ki 0)),o 144 (fa 0 143),s 1 144 (ki (-1))])) (e 0)))) (g [s 1 3 (ki (-1))] (e 0))))) (q (.draw [o 145 (lg 12 2),w 146 (.ext (.wload false 1 (.t 3))),s 12 2 (.t 145),s 1 3 (.t 146)]) r))))⟩
def z65:List (List Nat):=[]
def Z5:AFunc:=⟨10,[.cell 2 true 3],(g [o 1 (bx 4 0),o 2 (.alloc [iz,iz,iz])] (g [o 3 (fa 1 1),o 4 (ld 1 3),o 5 (fa 2 1),o 6 (ld 1 5),o 7 (fa 3 1),o 8 (ld 1 7),o 9 (.build [iz,iz,iz] [(0,1,(.t 4)),(1,1,(.t 6)),(2,1,(.t 8))]),s 3 2 (.t 9)] r))⟩
def z1A:List (List Nat):=[]
def vj:AFunc:=⟨55,[.tmp 6,.tmp 7,.tmp 8],(g [W 6 kn,V 7 0,V 8 0] (g [W 9 kn] (g [V 10 0,V 11 1] (q (g [V 12 0] (bl 0 (lo [0,1,2,9,10,11,12] (q (g [m 15 12,m 16 2,o 17 (le 16),o 18 (b .lss 15 17)] (c 18 k (e 0))) (q (bl 1 (g [m 21 2,m 22 12,o 23 (ia 2 21 22),o 24 (fa 1 23),o 25 (ld 1 24),m 13 25] (g [m 26 10,m 27 1,m 28 13,o 29 (ia 1 27 28),o 30 (ld 1 29),o 31 (cg xB [26,30]),m 14 31] (g [m 32 9,m 33 14,o 34 (li 1 [33]),o 35 (ap 1 8 32 34),m 9 35] (g [m 36 14,m 37 0,m 38 13,o 39 (ia 1 37 38),o 40 (ld 1 39),o 41 (b .add 36 40),o 42 (.mn (ki 1000000) (.t 41)),m 10 42] (p [m 43 11,m 44 1,m 45 13,o 46 (ia 1 44 45),o 47 (ld 1 46),o 48 (.mx (.t 43) (.t 47)),m 11 48])))))) (p [m 19 12,o 20 (bi .add 19 1),m 12 20])))))) (g [m 49 9,m 50 10,m 51 11,o 52 (cg xB [50,51]),o 53 (.mn (ki 1000000) (.t 52)),m 54 11,m 6 49,m 7 53,m 8 54] r)))))⟩
def ZM:List (List Nat):=[[0,1,2,9,10,11,12]]
def qB:AFunc:=⟨13,[.tmp 4],(g [V 4 0] (g [m 5 0,m 6 1,o 7 (b .add 5 6),o 8 (bi .sub 7 1),m 9 1,o 10 (b .quo 8 9),m 11 1,o 12 (b .mul 10 11),m 4 12] r))⟩
def Tk:List (List Nat):=[]
def tu:AFunc:=⟨13,[.tmp 4],(g [o 2 (bx 3 0),o 4 (v (ku 0))] (q (g [m 5 1,o 6 (bi .lss 5 0)] (c 6 (g [o 4 (v (ku 0))] r) k)) (g [o 7 (fa 0 2),o 8 (ld 1 7),m 9 1,o 10 (ia 4 8 9),o 11 (fa 0 10),o 12 (ld 1 11),m 4 12] r)))⟩
def VP:List (List Nat):=[]
def tv:AFunc:=⟨16,[.tmp 2],(g [o 1 (bx 4 0),W 2 kf] (g [o 3 (fa 0 1),o 4 (ld 1 3),o 5 (bu .eql 4 1),m 6 5,z 7 6 (fa 0 1),z 8 6 (ld 1 7),z 9 6 (bu .eql 8 2),o 10 (pt 6 9),m 11 10,z 12 11 (fa 0 1),z 13 11 (ld 1 12),z 14 11 (bu .eql 13 4),o 15 (pt 11 14),m 2 15] r))⟩
def VQ:List (List Nat):=[]
def vV:AFunc:=⟨36,[.tmp 6],(g [o 3 (bx 3 0),V 6 0] (q (g [o 7 (lg 3 3),m 8 1,o 9 (cg zy [7,8]),o 10 (bu .neq 9 5),m 11 10,z 12 11 (mt 2),z 13 11 (bi .lss 12 0),o 14 (pt 11 13),m 15 14,z 16 15 (mt 2),z 17 15 (fa 0 3),z 18 15 (ld 1 17),z 19 15 (mt 1),z 20 15 (ia 4 18 19),z 21 15 (fa 3 20),z 22 15 (ld 1 21),z 23 15 (le 22),z 24 15 (b .geq 16 23),o 25 (pt 15 24)] (c 25 (g [V 6 (-1)] r) k)) (g [o 26 (fa 0 3),o 27 (ld 1 26),m 28 1,o 29 (ia 4 27 28),o 30 (fa 3 29),o 31 (ld 1 30),m 32 2,o 33 (ia 2 31 32),o 34 (fa 1 33),o 35 (ld 1 34),m 6 35] r)))⟩
def X5:List (List Nat):=[]
def qA:AFunc:=⟨31,[.tmp 8],(g [o 4 (bx 3 0),V 8 0] (q (g [o 10 (lg 3 4),m 11 1,o 12 (cg zy [10,11]),m 9 12] (g [m 13 1,o 14 (bi .lss 13 0),m 15 14,z 16 15 (mt 9),z 17 15 (mt 2),z 18 15 (b .neq 16 17),z 19 15 (mt 18),y 20 19 (mt 9),y 21 19 (mt 3),y 22 19 (b .neq 20 21),z 23 15 (pf 19 22),o 24 (pt 15 23)] (c 24 (g [V 8 (-1)] r) k))) (g [o 25 (fa 0 4),o 26 (ld 1 25),m 27 1,o 28 (ia 4 26 27),o 29 (fa 1 28),o 30 (ld 1 29),m 8 30] r)))⟩
def Tj:List (List Nat):=[]
def ut:AFunc:=⟨36,[.tmp 4],(g [o 2 (bx 3 0),W 4 kf] (g [o 6 (fa 2 2),o 7 (ld 1 6),m 8 1,o 9 (ia 7 7 8),o 10 (lg 7 9),o 5 (.alloc [.str [],iz,iz,.nils,.nils,.nils,.nils]),s 7 5 (.t 10)] (q (.draw [o 11 (fa 2 5),o 12 (ld 1 11),o 13 (bi .eql 12 (-1)),m 14 13,y 15 14 (fa 1 5),y 16 14 (ld 1 15),y 17 14 (bi .eql 16 0),y 18 14 (mt 17),z 19 18 (fa 1 5),z 20 18 (ld 1 19),z 21 18 (bi .eql 20 1),z 22 18 (mt 21),y 23 22 (fa 0 2),y 24 22 (ld 1 23),y 25 22 (fa 3 5),y 26 22 (ld 1 25),y 27 22 (.iaddr 2 (.t 26) (ki 0)),y 28 22 (fa 1 27),y 29 22 (ld 1 28),y 30 22 (ia 4 24 29),y 31 22 (lg 4 30),y 32 22 (cg xZ [31]),z 33 18 (pf 22 32),y 34 14 (pt 18 33),o 35 (pf 14 34),m 4 35]) r)))⟩
def Wz:List (List Nat):=[]
def qd:AFunc:=⟨50,[.tmp 2],(g [W 2 kn] (g [m 8 0,o 9 (le 8),o 10 (.make 1 1 [.bool false] (.t 9) (.t 9)),m 3 10] (g [m 11 3,o 12 (.iaddr 1 (.t 11) (ki 0)),s 1 12 kt] (q (g [W 4 kt] (bl 0 (lo [0,3,4] (q (g [m 13 4] (c 13 k (e 0))) (bl 1 (g [W 4 kf] (g [V 5 0] (bl 2 (lo [0,3,4,5] (q (g [m 14 5,m 15 0,o 16 (le 15),o 17 (b .lss 14 16)] (c 17 k (e 2))) (q (bl 3 (g [m 20 0,m 21 5,o 22 (cg yC [20,21]),m 6 22] (g [V 7 0] (bl 4 (lo [0,3,4,5,6,7] (q (g [m 23 7,m 24 6,o 25 (le 24),o 26 (b .lss 23 25),m 27 26,y 28 27 (mt 3),y 29 27 (mt 5),y 30 27 (ia 1 28 29),y 31 27 (ld 1 30),o 32 (pf 27 31)] (c 32 k (e 4))) (q (bl 5 (g [m 35 3,m 36 6,m 37 7,o 38 (ia 1 36 37),o 39 (ld 1 38),o 40 (ia 1 35 39),o 41 (ld 1 40),o 42 (.un .not (.t 41))] (c 42 (p [m 43 3,m 44 6,m 45 7,o 46 (ia 1 44 45),o 47 (ld 1 46),o 48 (ia 1 43 47),s 1 48 kt,W 4 kt]) k))) (p [m 33 7,o 34 (bi .add 33 1),m 7 34])))))))) (p [m 18 5,o 19 (bi .add 18 1),m 5 19])))))))))))) (g [m 49 3,m 2 49] r)))))⟩
def UR:List (List Nat):=[[0,3,4],[0,3,4,5],[0,3,4,5,6,7]]
def xb:AFunc:=⟨31,[.tmp 8],(g [o 4 (bx 3 0),V 8 0] (g [o 10 (fa 2 4),o 11 (ld 1 10),m 12 1,o 13 (ia 7 11 12),o 14 (fa 4 13),o 15 (ld 1 14),m 16 2,o 17 (ia 4 15 16),o 18 (lg 4 17),o 9 (.alloc [.int .u8 (0),iz,iz,iz]),s 4 9 (.t 18)] (q (g [o 19 (lg 3 4),m 20 1,o 21 (lg 4 9),o 22 (cg tK [19,20,21]),o 23 (.un .not (.t 22))] (c 23 (g [V 8 16] r) k)) (q (g [m 24 3,o 25 (.un .not (.t 24))] (c 25 (g [V 8 6] r) k)) (q (g [o 26 (lg 3 4),m 27 1,o 28 (lg 4 9),o 29 (cg zT [26,27,28]),o 30 (.un .not (.t 29))] (c 30 (g [V 8 30] r) k)) (g [V 8 0] r))))))⟩
def kl:List (List Nat):=[]
def vD:AFunc:=⟨105,[.tmp 4,.tmp 5],(g [o 2 (bx 3 0),W 4 kn,W 5 kf] (g [o 16 (fa 2 2),o 17 (ld 1 16),m 18 1,o 19 (ia 7 17 18),o 20 (fa 4 19),o 21 (ld 1 20),m 6 21] (q (.draw [m 22 6,o 23 (le 22),o 24 (.make 1 24 [.nils] (.t 23) (.t 23)),m 25 6,o 26 (le 25),o 27 (.make 1 1 [.bool false] (.t 26) (.t 26)),m 7 24,m 8 27]) (g [m 28 8,o 29 (.iaddr 1 (.t 28) (ki 0)),s 1 29 kt] (q (g [W 9 kt] (bl 0 (lo [1,2,6,7,8,9] (q (g [m 30 9] (c 30 k (e 0))) (bl 1 (g [W 9 kf] (g [V 10 0] (bl 2 (lo [1,2,6,7,8,9,10] (q (g [m 31 10,m 32 6,o 33 (le 32),o 34 (b .lss 31 33)] (c 34 k (e 2))) (q (bl 3 (q (g [m 37 8,m 38 10,o 39 (ia 1 37 38),o 40 (ld 1 39),o 41 (.un .not (.t 40))] (c 41 (e 3) k)) (q (.draw [o 43 (lg 3 2),m 44 1,m 45 6,m 46 10,o 47 (ia 4 45 46),o 48 (lg 4 47),m 49 7,m 50 10,o 51 (ia 1 49 50),o 52 (ld 1 51),o 53 (cg uR [43,44,48,52]),m 42 53,o 54 (ex 42 0),o 55 (ex 42 1),m 11 54,m 12 55]) (q (g [m 56 12,o 57 (.un .not (.t 56))] (c 57 (g [W 4 kn,W 5 kf] r) k)) (g [m 58 6,m 59 10,o 60 (cg yC [58,59]),m 13 60] (g [V 14 0] (bl 4 (lo [1,2,6,7,8,9,10,11,13,14] (q (g [m 61 14,m 62 13,o 63 (le 62),o 64 (b .lss 61 63)] (c 64 k (e 4))) (q (bl 5 (g [m 67 13,m 68 14,o 69 (ia 1 67 68),o 70 (ld 1 69),m 15 70] (q (g [m 71 8,m 72 15,o 73 (ia 1 71 72),o 74 (ld 1 73),m 75 74,y 76 75 (mt 7),y 77 75 (mt 15),y 78 75 (ia 1 76 77),y 79 75 (ld 1 78),y 80 75 (mt 11),y 81 75 (cg yW [79,80]),y 82 75 (.un .not (.t 81)),o 83 (pf 75 82)] (c 83 (g [W 4 kn,W 5 kf] r) k)) (g [m 84 8,m 85 15,o 86 (ia 1 84 85),o 87 (ld 1 86),o 88 (.un .not (.t 87))] (c 88 (p [m 89 7,m 90 15,m 91 8,m 92 15,m 93 11,o 94 (ia 1 89 90),s 1 94 (.t 93),o 95 (ia 1 91 92),s 1 95 kt,W 9 kt]) k))))) (p [m 65 14,o 66 (bi .add 65 1),m 14 66]))))))))))) (p [m 35 10,o 36 (bi .add 35 1),m 10 36])))))))))))) (q (.draw [m 96 7,m 97 7,m 98 6,o 99 (le 98),o 100 (bi .sub 99 1),o 101 (ia 1 97 100),o 102 (ld 1 101),o 103 (le 102),o 104 (bi .eql 103 0),m 4 96,m 5 104]) r))))))⟩
def Yn:List (List Nat):=[[1,2,6,7,8,9],[1,2,6,7,8,9,10],[1,2,6,7,8,9,10,11,13,14]]
def tE:AFunc:=⟨114,[.tmp 6],(g [W 6 kn] (g [m 16 0,o 17 (cg vA [16]),m 7 17] (g [m 18 0,o 19 (le 18),o 20 (.make 1 8 [.int .u64 (0)] (.t 19) (.t 19)),m 8 20] (q (g [V 9 0] (bl 0 (lo [0,1,2,7,8,9] (q (g [m 21 9,m 22 0,o 23 (le 22),o 24 (b .lss 21 23)] (c 24 k (e 0))) (q (bl 1 (p [m 27 8,m 28 9,m 29 2,o 30 (cg xM [29]),o 31 (ia 1 27 28),s 1 31 (.t 30)])) (p [m 25 9,o 26 (bi .add 25 1),m 9 26])))))) (g [m 32 8,m 33 1,o 34 (cg xM [33]),o 35 (.iaddr 1 (.t 32) (ki 0)),s 1 35 (.t 34)] (q (g [W 10 kt] (bl 2 (lo [0,7,8,10] (q (g [m 36 10] (c 36 k (e 2))) (bl 3 (g [W 10 kf] (g [V 11 0] (bl 4 (lo [0,7,8,10,11] (q (g [m 37 11,m 38 0,o 39 (le 38),o 40 (b .lss 37 39)] (c 40 k (e 4))) (q (bl 5 (g [m 43 0,m 44 11,o 45 (cg yC [43,44]),m 12 45] (g [V 13 0] (bl 6 (lo [0,7,8,10,11,12,13] (q (g [m 46 13,m 47 12,o 48 (le 47),o 49 (b .lss 46 48),m 50 49,y 51 50 (mt 7),y 52 50 (mt 11),y 53 50 (ia 1 51 52),y 54 50 (ld 1 53),o 55 (pf 50 54)] (c 55 k (e 6))) (q (bl 7 (q (.draw [m 58 8,m 59 12,m 60 13,o 61 (ia 1 59 60),w 62 (ld 1 61),o 63 (ia 1 58 62),w 64 (ld 1 63),m 65 8,m 66 11,o 67 (ia 1 65 66),w 68 (ld 1 67),m 69 0,m 70 11,o 71 (ia 4 69 70),o 72 (lg 4 71),o 73 (cg vK [72]),o 74 (b .or 68 73),o 75 (b .and 64 74),m 14 75]) (g [m 76 14,m 77 8,m 78 12,m 79 13,o 80 (ia 1 78 79),o 81 (ld 1 80),o 82 (ia 1 77 81),o 83 (ld 1 82),o 84 (b .neq 76 83)] (c 84 (p [m 85 8,m 86 12,m 87 13,o 88 (ia 1 86 87),o 89 (ld 1 88),m 90 14,o 91 (ia 1 85 89),s 1 91 (.t 90),W 10 kt]) k)))) (p [m 56 13,o 57 (bi .add 56 1),m 13 57])))))))) (p [m 41 11,o 42 (bi .add 41 1),m 11 42])))))))))))) (q (g [V 15 0] (bl 8 (lo [0,7,8,15] (q (g [m 92 15,m 93 0,o 94 (le 93),o 95 (b .lss 92 94)] (c 95 k (e 8))) (q (bl 9 (g [m 98 7,m 99 15,o 100 (ia 1 98 99),o 101 (ld 1 100),o 102 (.un .not (.t 101)),m 103 102,z 104 103 (mt 15),z 105 103 (mt 0),z 106 103 (le 105),z 107 103 (bi .sub 106 1),z 108 103 (b .eql 104 107),o 109 (pt 103 108)] (c 109 (p [m 110 8,m 111 15,o 112 (ia 1 110 111),s 1 112 (.c (.int .u64 (0)))]) k))) (p [m 96 15,o 97 (bi .add 96 1),m 15 97])))))) (g [m 113 8,m 6 113] r))))))))⟩
def VY:List (List Nat):=[[0,1,2,7,8,9],[0,7,8,10],[0,7,8,10,11],[0,7,8,10,11,12,13],[0,7,8,15]]
def xY:AFunc:=⟨35,[.tmp 2],(g [W 2 kn] (g [W 3 kn] (q (g [V 4 0] (bl 0 (lo [0,3,4] (q (g [m 5 4,m 6 0,o 7 (le 6),o 8 (b .lss 5 7)] (c 8 k (e 0))) (q (bl 1 (q (.draw [m 11 4,o 12 (bi .eql 11 0),m 13 12,z 14 13 (mt 0),z 15 13 (mt 4),z 16 13 (ia 1 14 15),z 17 13 (ld 1 16),z 18 13 (mt 0),z 19 13 (mt 4),z 20 13 (bi .sub 19 1),z 21 13 (ia 1 18 20),z 22 13 (ld 1 21),z 23 13 (b .neq 17 22),o 24 (pt 13 23)]) (c 24 (p [m 25 3,m 26 4,m 27 0,m 28 4,o 29 (ia 1 27 28),o 30 (ld 1 29),o 31 (.build [iz,.int .u64 (0)] [(0,1,(.t 26)),(1,1,(.t 30))]),o 32 (li 2 [31]),o 33 (ap 2 16 25 32),m 3 33]) k))) (p [m 9 4,o 10 (bi .add 9 1),m 4 10])))))) (g [m 34 3,m 2 34] r))))⟩
def VV:List (List Nat):=[[0,3,4]]
def XO:AFunc:=⟨85,[.tmp 2],(g [o 1 (bx 3 0),W 2 kf] (q (g [o 12 (fa 0 1),o 13 (ld 1 12),o 14 (cg um [13]),o 15 (bi .neq 14 0),m 16 15,z 17 16 (fa 1 1),z 18 16 (ld 1 17),z 19 16 (le 18),z 20 16 (bi .gtr 19 32),o 21 (pt 16 20),m 22 21,z 23 22 (fa 2 1),z 24 22 (ld 1 23),z 25 22 (le 24),z 26 22 (bi .eql 25 0),o 27 (pt 22 26),m 28 27,z 29 28 (fa 2 1),z 30 28 (ld 1 29),z 31 28 (le 30),z 32 28 (bi .gtr 31 32),o 33 (pt 28 32)] (c 33 (g [W 2 kf] r) k)) (q (g [o 34 (fa 0 1),o 35 (ld 1 34),o 36 (le 35),V 37 0] (bl 0 (lo [1,36,37] (g [o 38 (b .lss 37 36)] (q (c 38 k (e 0)) (q (bl 1 (g [m 39 37,m 3 39] (g [o 41 (fa 0 1),o 42 (ld 1 41),m 43 3,o 44 (cg qq [42,43]),m 40 44,o 45 (ex 40 0),o 46 (ex 40 1),o 47 (ex 40 2),m 4 45,m 5 46,m 6 47] (g [m 48 6,o 49 (bi .neq 48 0)] (c 49 (g [W 2 kf] r) k))))) (p [o 50 (bi .add 37 1),m 37 50]))))))) (q (g [o 51 (fa 1 1),o 52 (ld 1 51),o 53 (le 52),V 54 0] (bl 2 (lo [1,52,53,54] (g [o 55 (b .lss 54 53)] (q (c 55 k (e 2)) (q (bl 3 (g [o 56 (ia 1 52 54),o 57 (ld 1 56),m 8 57] (g [m 58 8,o 59 (.lenS (.t 58)),o 60 (bi .gtr 59 64)] (c 60 (g [W 2 kf] r) k)))) (p [o 61 (bi .add 54 1),m 54 61]))))))) (g [o 62 (.ext .mkmap),m 9 62] (q (g [o 63 (fa 2 1),o 64 (ld 1 63),o 65 (le 64),V 66 0] (bl 4 (lo [1,9,64,65,66] (g [o 67 (b .lss 66 65)] (q (c 67 k (e 4)) (q (bl 5 (g [o 68 (ia 7 64 66),o 69 (lg 7 68),o 11 (.alloc [.str [],iz,iz,.nils,.nils,.nils,.nils]),s 7 11 (.t 69)] (q (g [m 70 9,o 71 (fa 0 11),o 72 (ld 1 71),o 73 (.ext (.mget true (.bool false) (.t 70) (.t 72))),m 74 73,z 75 74 (fa 0 1),z 76 74 (ld 1 75),z 77 74 (lg 7 11),z 78 74 (cg jv [76,77]),z 79 74 (.un .not (.t 78)),o 80 (pt 74 79)] (c 80 (g [W 2 kf] r) k)) (p [m 81 9,o 82 (fa 0 11),o 83 (ld 1 82),⟨none,.ext (.mput true (.t 81) (.t 83) kt),none,false⟩])))) (p [o 84 (bi .add 66 1),m 66 84]))))))) (g [W 2 kt] r)))))))⟩
def z4O:List (List Nat):=[[1,36,37],[1,52,53,54],[1,9,64,65,66]]
def tJ:AFunc:=⟨53,[],(g [m 6 0,m 7 1,o 8 (le 7),o 9 (cg zp [6,8])] (g [m 10 1,o 11 (le 10),V 12 0] (bl 0 (lo [0,10,11,12] (g [o 13 (b .lss 12 11)] (q (c 13 k (e 0)) (q (bl 1 (g [o 14 (ia 4 10 12),o 15 (lg 4 14),o 5 (.alloc [.int .u8 (0),iz,iz,.nils]),s 4 5 (.t 15)] (q (.draw [m 16 0,m 17 0,o 18 (.ext (.nilChk (.t 17))),o 19 (fa 0 18),o 20 (ld 1 19),o 21 (fa 0 5),o 22 (ld 1 21),o 23 (li 1 [22]),o 24 (ap 1 1 20 23),o 25 (.ext (.nilChk (.t 16))),o 26 (fa 0 25),s 1 26 (.t 24)]) (g [o 27 (fa 0 5),o 28 (ld 1 27)] (bl 2 (q (g [o 30 (bu .eql 28 4),m 29 30] (c 29 k (p [o 31 (bu .eql 28 7),m 29 31]))) (c 29 (p [m 32 0,o 33 (fa 1 5),o 34 (ld 1 33),o 35 (cg zp [32,34])]) (g [o 37 (bu .eql 28 6),m 36 37] (c 36 (g [m 38 0,o 39 (fa 1 5),o 40 (ld 1 39),o 41 (cg zp [38,40])] (p [m 42 0,o 43 (fa 2 5),o 44 (ld 1 43),o 45 (cg zp [42,44])])) (g [o 47 (bu .eql 28 5),m 46 47] (c 46 (p [m 48 0,o 49 (fa 3 5),o 50 (ld 1 49),o 51 (cg yN [48,50])]) k))))))))))) (p [o 52 (bi .add 12 1),m 12 52]))))))))⟩
def U3:List (List Nat):=[[0,10,11,12]]
def uL:AFunc:=⟨15,[],(.draw [m 4 0,m 5 0,o 6 (.ext (.nilChk (.t 5))),o 7 (fa 0 6),w 8 (ld 1 7),m 9 1,o 10 (.conv .u64 (.t 9)),o 11 (cg vQ [10]),o 12 (ap 1 1 8 11),o 13 (.ext (.nilChk (.t 4))),o 14 (fa 0 13),s 1 14 (.t 12)])⟩
def WW:List (List Nat):=[]
def qg:AFunc:=⟨17,[],(g [m 4 0,m 5 1,o 6 (.lenS (.t 5)),o 7 (cg zp [4,6])] (p [m 8 0,m 9 0,o 10 (.ext (.nilChk (.t 9))),o 11 (fa 0 10),o 12 (ld 1 11),m 13 1,o 14 (ap 1 1 12 13),o 15 (.ext (.nilChk (.t 8))),o 16 (fa 0 15),s 1 16 (.t 14)]))⟩
def UU:List (List Nat):=[]
def vI:AFunc:=⟨97,[.tmp 4],(g [o 3 (bx 7 1),V 4 0] (g [m 13 0,o 14 (fa 0 3),o 15 (ld 1 14),o 16 (cg yH [13,15])] (g [m 17 0,o 18 (fa 1 3),o 19 (ld 1 18),o 20 (cg zp [17,19])] (q (.draw [m 21 0,m 22 0,o 23 (.ext (.nilChk (.t 22))),o 24 (fa 0 23),w 25 (ld 1 24),o 26 (fa 2 3),o 27 (ld 1 26),o 28 (cg jC [27]),o 29 (ap 1 1 25 28),o 30 (.ext (.nilChk (.t 21))),o 31 (fa 0 30),s 1 31 (.t 29)]) (g [m 32 0,o 33 (fa 3 3),o 34 (ld 1 33),o 35 (cg yN [32,34])] (g [m 36 0,o 37 (fa 4 3),o 38 (ld 1 37),o 39 (le 38),o 40 (cg zp [36,39])] (q (g [o 41 (fa 4 3),o 42 (ld 1 41),o 43 (le 42),V 44 0] (bl 0 (lo [0,3,42,43,44] (g [o 45 (b .lss 44 43)] (q (c 45 k (e 0)) (q (bl 1 (g [o 46 (ia 4 42 44),o 47 (lg 4 46),o 6 (.alloc [.int .u8 (0),iz,iz,iz]),s 4 6 (.t 47)] (g [o 49 (lg 4 6),o 50 (cg XR [49]),m 48 50,o 51 (ex 48 0),o 52 (ex 48 1),m 7 51,m 8 52] (q (g [m 53 8,o 54 (bi .neq 53 0)] (c 54 (g [m 55 8,m 4 55] r) k)) (p [m 56 0,m 57 0,o 58 (.ext (.nilChk (.t 57))),o 59 (fa 0 58),o 60 (ld 1 59),m 61 7,o 62 (ap 1 1 60 61),o 63 (.ext (.nilChk (.t 56))),o 64 (fa 0 63),s 1 64 (.t 62)]))))) (p [o 65 (bi .add 44 1),m 44 65]))))))) (q (g [o 66 (fa 5 3),o 67 (ld 1 66),o 68 (fa 6 3),o 69 (ld 1 68),o 70 (li 1 [67,69]),o 71 (le 70),V 72 0] (bl 2 (lo [0,3,70,71,72] (g [o 73 (b .lss 72 71)] (q (c 73 k (e 2)) (q (bl 3 (g [o 74 (ia 1 70 72),o 75 (ld 1 74),m 10 75] (g [m 77 10,o 78 (fa 4 3),o 79 (ld 1 78),o 80 (le 79),o 81 (cg jY [77,80]),m 76 81,o 82 (ex 76 0),o 83 (ex 76 1),m 11 82,m 12 83] (q (g [m 84 12,o 85 (bi .neq 84 0)] (c 85 (g [m 86 12,m 4 86] r) k)) (p [m 87 0,m 88 0,o 89 (.ext (.nilChk (.t 88))),o 90 (fa 0 89),o 91 (ld 1 90),m 92 11,o 93 (ap 1 1 91 92),o 94 (.ext (.nilChk (.t 87))),o 95 (fa 0 94),s 1 95 (.t 93)]))))) (p [o 96 (bi .add 72 1),m 72 96]))))))) (g [V 4 0] r)))))))))⟩
def Ys:List (List Nat):=[[0,3,42,43,44],[0,3,70,71,72]]
def XQ:AFunc:=⟨53,[.tmp 2],(g [V 2 0] (g [m 6 0,o 7 (le 6),m 3 7] (q (g [m 8 3,o 9 (bi .eql 8 0),m 10 9,z 11 10 (mt 3),z 12 10 (bi .gtr 11 200),o 13 (pt 10 12),m 14 13,z 15 14 (mt 0),z 16 14 (mt 3),z 17 14 (bi .sub 16 1),z 18 14 (ia 4 15 17),z 19 14 (lg 4 18),z 20 14 (.build [.int .u8 (0),iz,iz,iz] [(0,1,(ku 34)),(1,1,(ki (-1)))]),z 21 14 (.ext (.eqA true 4 [(0,1),(1,1),(2,1),(3,1)] (.t 19) (.t 20))),o 22 (pt 14 21)] (c 22 (g [V 2 8] r) k)) (q (g [m 23 0,o 24 (le 23),V 25 0] (bl 0 (lo [3,23,24,25] (g [o 26 (b .lss 25 24)] (q (c 26 k (e 0)) (q (bl 1 (g [o 27 (ia 4 23 25),o 28 (lg 4 27),o 5 (.alloc [.int .u8 (0),iz,iz,iz]),s 4 5 (.t 28)] (q (g [o 29 (lg 4 5),o 30 (cg qK [29]),o 31 (bi .neq 30 0)] (c 31 (g [V 2 8] r) k)) (g [o 32 (fa 0 5),o 33 (ld 1 32),o 34 (bu .eql 33 22),m 35 34,y 36 35 (fa 1 5),y 37 35 (ld 1 36),y 38 35 (mt 3),y 39 35 (b .geq 37 38),o 40 (pf 35 39),m 41 40,z 42 41 (fa 0 5),z 43 41 (ld 1 42),z 44 41 (bu .eql 43 23),z 45 41 (mt 44),y 46 45 (fa 2 5),y 47 45 (ld 1 46),y 48 45 (mt 3),y 49 45 (b .geq 47 48),z 50 41 (pf 45 49),o 51 (pt 41 50)] (c 51 (g [V 2 8] r) k))))) (p [o 52 (bi .add 25 1),m 25 52]))))))) (g [V 2 0] r)))))⟩
def z4Q:List (List Nat):=[[3,23,24,25]]
def Y3:AFunc:=⟨42,[],(g [m 8 1,o 9 (.call (.t 8) [(ki 0),(ki (-1))])] (g [o 10 (.ext (.litB 1 [(ki 0)])),m 4 10] (bl 0 (lo [0,1,4] (q (g [m 11 4,o 12 (le 11),o 13 (bi .gtr 12 0)] (c 13 k (e 0))) (bl 1 (g [m 14 4,m 15 4,o 16 (le 15),o 17 (bi .sub 16 1),o 18 (ia 1 14 17),o 19 (ld 1 18),m 5 19] (g [m 20 4,m 21 4,o 22 (le 21),o 23 (bi .sub 22 1),o 24 (.slice 1 (.t 20) none (some (.t 23)) none),m 4 24] (g [m 25 0,m 26 5,o 27 (cg jF [25,26]),o 28 (le 27),V 29 0] (bl 2 (lo [0,1,4,5,27,28,29] (g [o 30 (b .lss 29 28)] (q (c 30 k (e 2)) (q (bl 3 (g [o 31 (ia 1 27 29),o 32 (ld 1 31),m 7 32] (g [m 33 1,m 34 7,m 35 5,o 36 (.call (.t 33) [(.t 34),(.t 35)])] (c 36 (p [m 37 4,m 38 7,o 39 (li 1 [38]),o 40 (ap 1 8 37 39),m 4 40]) k)))) (p [o 41 (bi .add 29 1),m 29 41])))))))))))))))⟩
def z36:List (List Nat):=[[0,1,4],[0,1,4,5,27,28,29],[777777,10]]
def ju:AFunc:=⟨16,[.tmp 5],(g [W 5 kf] (g [o 7 (ld 1 2),m 8 0,o 9 (ia 1 7 8),o 10 (ld 1 9),m 6 10] (g [o 11 (ld 1 2),m 12 0,o 13 (ia 1 11 12),s 1 13 kt] (g [m 14 6,o 15 (.un .not (.t 14)),m 5 15] r))))⟩
def QJ:List (List Nat):=[]
def yj:AFunc:=⟨77,[.tmp 6,.tmp 7],(g [o 3 (bx 10 0),o 4 (bx 4 1),W 6 kn,W 7 kf] (q (g [o 15 (fa 0 4),o 16 (ld 1 15),o 17 (bu .eql 16 24)] (c 17 (.draw [m 18 2,o 19 (cg yM [18]),w 20 (lg 10 3),o 21 (fa 1 4),w 22 (ld 1 21),o 23 (cg zq [20,22]),o 24 (li 1 [23]),o 25 (ap 1 8 19 24),m 2 25]) k)) (q (g [o 26 (lg 4 4),o 27 (cg tU [26]),m 8 27] (g [m 28 8,o 29 (bi .geq 28 0)] (c 29 (g [o 30 (fa 0 3),o 31 (fa 2 30),o 32 (ld 1 31),m 33 8,o 34 (ia 7 32 33),o 35 (lg 7 34),o 9 (.alloc [.str [],iz,iz,.nils,.nils,.nils,.nils]),s 7 9 (.t 35)] (g [m 36 2,o 37 (le 36),o 38 (fa 1 9),o 39 (ld 1 38),o 40 (b .sub 37 39),m 10 40] (q (g [m 41 10,o 42 (bi .lss 41 0)] (c 42 (g [W 6 kn,W 7 kf] r) k)) (q (g [m 43 2,m 44 10,o 45 (.slice 1 (.t 43) (some (.t 44)) none none),o 46 (le 45),V 47 0] (bl 0 (lo [2,3,9,10,45,46,47] (g [o 48 (b .lss 47 46)] (q (c 48 k (e 0)) (q (bl 1 (g [m 49 47,o 50 (ia 1 45 47),o 51 (ld 1 50),m 11 49,m 12 51] (g [o 52 (fa 3 9),o 53 (ld 1 52),m 54 11,o 55 (ia 2 53 54),o 56 (fa 1 55),o 57 (ld 1 56),m 58 12,o 59 (b .neq 57 58)] (c 59 (g [W 6 kn,W 7 kf] r) k)))) (p [o 60 (bi .add 47 1),m 47 60]))))))) (p [m 61 2,m 62 10,o 63 (.slice 1 (.t 61) none (some (.t 62)) none),m 2 63]))))) k))) (g [o 65 (lg 10 3),m 66 2,o 67 (cg xo [65,66]),m 64 67,o 68 (ex 64 0),o 69 (ex 64 1),m 13 68,m 14 69] (g [m 70 2,m 71 14,o 72 (bi .eql 71 0),m 73 72,y 74 73 (mt 13),y 75 73 (bi .leq 74 4096),o 76 (pf 73 75),m 6 70,m 7 76] r)))))⟩
def WZ:List (List Nat):=[[2,3,9,10,45,46,47]]
def Uu:AFunc:=⟨23,[.tmp 4,.tmp 5],(g [W 4 kn,V 5 0] (q (g [m 7 0,o 8 (cg vd [7]),m 6 8] (g [m 9 6,o 10 (bi .neq 9 0)] (c 10 (g [m 11 6,W 4 kn,m 5 11] r) k))) (q (g [m 12 1,o 13 (bi .lss 12 0),m 14 13,z 15 14 (mt 1),z 16 14 (mt 0),z 17 14 (le 16),z 18 14 (b .geq 15 17),o 19 (pt 14 18)] (c 19 (g [W 4 kn,V 5 2] r) k)) (g [m 20 0,m 21 1,o 22 (cg jF [20,21]),m 4 22,V 5 0] r))))⟩
def z6a:List (List Nat):=[]
def ua:AFunc:=⟨26,[.tmp 4],(g [W 4 kf] (q (g [m 6 0,o 7 (le 6),m 8 1,o 9 (le 8),o 10 (b .neq 7 9)] (c 10 (g [W 4 kf] r) k)) (q (g [m 11 0,o 12 (le 11),V 13 0] (bl 0 (lo [0,1,12,13] (g [o 14 (b .lss 13 12)] (q (c 14 k (e 0)) (q (bl 1 (g [m 15 13,m 5 15] (q (.draw [m 16 0,m 17 5,o 18 (ia 1 16 17),o 19 (ld 1 18),m 20 1,m 21 5,o 22 (ia 1 20 21),o 23 (ld 1 22),o 24 (b .neq 19 23)]) (c 24 (g [W 4 kf] r) k)))) (p [o 25 (bi .add 13 1),m 13 25]))))))) (g [W 4 kt] r))))⟩
def Xm:List (List Nat):=[[0,1,12,13]]
def uc:AFunc:=⟨43,[.tmp 4,.tmp 5],(g [o 2 (bx 10 0),V 4 0,V 5 0] (g [V 6 0] (q (g [m 12 1,o 13 (le 12),V 14 0] (bl 0 (lo [2,6,12,13,14] (g [o 15 (b .lss 14 13)] (q (c 15 k (e 0)) (q (bl 1 (g [o 16 (ia 1 12 14),o 17 (ld 1 16),m 8 17] (g [o 19 (fa 0 2),o 20 (fa 0 19),o 21 (ld 1 20),m 22 8,o 23 (cg qq [21,22]),m 18 23,o 24 (ex 18 0),o 25 (ex 18 1),o 26 (ex 18 2),m 9 24,m 10 25,m 11 26] (q (g [m 27 11,o 28 (bi .neq 27 0)] (c 28 (g [m 29 11,V 4 0,m 5 29] r) k)) (g [m 31 9,o 32 (cg Zd [31]),m 30 32,o 33 (ex 30 0),o 34 (ex 30 1),m 9 33,m 11 34] (q (g [m 35 11,o 36 (bi .neq 35 0)] (c 36 (g [m 37 11,V 4 0,m 5 37] r) k)) (p [m 38 6,m 39 9,o 40 (b .add 38 39),m 6 40]))))))) (p [o 41 (bi .add 14 1),m 14 41]))))))) (g [m 42 6,m 4 42,V 5 0] r))))⟩
def Xq:List (List Nat):=[[2,6,12,13,14]]
def Ut:AFunc:=⟨18,[.tmp 2],(g [o 2 (v (.c (.int .u64 (0))))] (g [o 3 (v (.c (.int .u64 (0))))] (q (g [m 6 0,o 7 (le 6),V 8 0] (bl 0 (lo [3,6,7,8] (g [o 9 (b .lss 8 7)] (q (c 9 k (e 0)) (q (bl 1 (g [o 10 (ia 1 6 8),o 11 (ld 1 10),m 5 11] (p [m 12 3,m 13 5,o 14 (.bin .shl (.c (.int .u64 (1))) (.t 13)),o 15 (b .or 12 14),m 3 15]))) (p [o 16 (bi .add 8 1),m 8 16]))))))) (g [m 17 3,m 2 17] r))))⟩
def z69:List (List Nat):=[[3,6,7,8]]
def j5:AFunc:=⟨60,[.tmp 8],(g [W 8 kf] (q (g [m 11 1,o 12 (bi .lss 11 0)] (c 12 (q (.draw [o 13 (ld 1 3),m 14 0,w 15 (.ext (.wload false 1 (.t 4))),m 16 0,w 17 (.ext (.wload false 1 (.t 2))),o 18 (.bin .shl (.c (.int .u64 (1))) (.t 17)),o 19 (.bin .sub (.t 18) (.c (.int .u64 (1)))),o 20 (ia 1 13 14),s 1 20 kt,o 21 (ia 1 15 16),s 1 21 (.t 19)]) (g [W 8 kt] r)) k)) (q (.draw [o 22 (ld 1 4),m 23 1,o 24 (ia 1 22 23),o 25 (ld 1 24),o 26 (ld 1 5),m 27 1,o 28 (ia 1 26 27),o 29 (ld 1 28),o 30 (b .or 25 29),m 9 30]) (q (g [o 31 (ld 1 3),m 32 0,o 33 (ia 1 31 32),o 34 (ld 1 33),o 35 (.un .not (.t 34))] (c 35 (q (.draw [o 36 (ld 1 3),m 37 0,w 38 (.ext (.wload false 1 (.t 4))),m 39 0,m 40 9,o 41 (ia 1 36 37),s 1 41 kt,o 42 (ia 1 38 39),s 1 42 (.t 40)]) (g [W 8 kt] r)) k)) (g [o 43 (ld 1 4),m 44 0,o 45 (ia 1 43 44),o 46 (ld 1 45),m 10 46] (g [o 47 (ld 1 4),m 48 0,o 49 (ia 1 47 48),o 50 (ld 1 49),m 51 9,o 52 (b .and 50 51),o 53 (ia 1 47 48),s 1 53 (.t 52)] (g [o 54 (ld 1 4),m 55 0,o 56 (ia 1 54 55),o 57 (ld 1 56),m 58 10,o 59 (b .neq 57 58),m 8 59] r)))))))⟩
def z1I:List (List Nat):=[]
def jr:AFunc:=⟨9,[.tmp 2],(g [V 2 0] (q (g [m 3 0,o 4 (bi .lss 3 1),m 5 4,z 6 5 (mt 0),z 7 5 (bi .gtr 6 200),o 8 (pt 5 7)] (c 8 (g [V 2 2] r) k)) (g [V 2 0] r)))⟩
def QG:List (List Nat):=[]
def tG:AFunc:=⟨127,[.tmp 4],(g [W 4 kf] (g [m 7 0,m 8 1,o 9 (ia 4 7 8),o 10 (lg 4 9),o 5 (.alloc [.int .u8 (0),iz,iz,.nils]),s 4 5 (.t 10)] (q (g [o 11 (fa 0 5),o 12 (ld 1 11)] (bl 0 (q (g [o 14 (bu .eql 12 1),m 13 14] (c 13 k (g [o 15 (bu .eql 12 2),m 13 15] (c 13 k (p [o 16 (bu .eql 12 3),m 13 16]))))) (c 13 (g [o 17 (fa 1 5),o 18 (ld 1 17),o 19 (bi .eql 18 0),m 20 19,y 21 20 (fa 2 5),y 22 20 (ld 1 21),y 23 20 (bi .eql 22 0),o 24 (pf 20 23),m 25 24,y 26 25 (fa 3 5),y 27 25 (ld 1 26),y 28 25 (le 27),y 29 25 (bi .eql 28 0),o 30 (pf 25 29),m 4 30] r) (q (g [o 32 (bu .eql 12 4),m 31 32] (c 31 k (p [o 33 (bu .eql 12 7),m 31 33]))) (c 31 (g [o 34 (fa 1 5),o 35 (ld 1 34),o 36 (bi .geq 35 0),m 37 36,y 38 37 (fa 1 5),y 39 37 (ld 1 38),y 40 37 (mt 0),y 41 37 (le 40),y 42 37 (b .lss 39 41),o 43 (pf 37 42),m 44 43,y 45 44 (fa 2 5),y 46 44 (ld 1 45),y 47 44 (bi .eql 46 0),o 48 (pf 44 47),m 49 48,y 50 49 (fa 3 5),y 51 49 (ld 1 50),y 52 49 (le 51),y 53 49 (bi .eql 52 0),o 54 (pf 49 53),m 4 54] r) (g [o 56 (bu .eql 12 6),m 55 56] (c 55 (g [o 57 (fa 1 5),o 58 (ld 1 57),o 59 (bi .geq 58 0),m 60 59,y 61 60 (fa 1 5),y 62 60 (ld 1 61),y 63 60 (mt 1),y 64 60 (b .lss 62 63),o 65 (pf 60 64),m 66 65,y 67 66 (fa 2 5),y 68 66 (ld 1 67),y 69 66 (bi .geq 68 1),o 70 (pf 66 69),m 71 70,y 72 71 (fa 2 5),y 73 71 (ld 1 72),y 74 71 (bi .leq 73 16),o 75 (pf 71 74),m 76 75,y 77 76 (fa 3 5),y 78 76 (ld 1 77),y 79 76 (le 78),y 80 76 (bi .eql 79 0),o 81 (pf 76 80),m 4 81] r) (g [o 83 (bu .eql 12 5),m 82 83] (c 82 (q (g [V 6 0] (bl 1 (lo [1,5,6] (q (g [m 84 6,o 85 (fa 3 5),o 86 (ld 1 85),o 87 (le 86),o 88 (b .lss 84 87)] (c 88 k (e 1))) (q (bl 2 (g [o 91 (fa 3 5),o 92 (ld 1 91),m 93 6,o 94 (ia 2 92 93),o 95 (fa 1 94),o 96 (ld 1 95),o 97 (bi .lss 96 0),m 98 97,z 99 98 (fa 3 5),z 100 98 (ld 1 99),z 101 98 (mt 6),z 102 98 (ia 2 100 101),z 103 98 (fa 1 102),z 104 98 (ld 1 103),z 105 98 (mt 1),z 106 98 (b .geq 104 105),o 107 (pt 98 106)] (c 107 (g [W 4 kf] r) k))) (p [m 89 6,o 90 (bi .add 89 1),m 6 90])))))) (g [o 108 (fa 1 5),o 109 (ld 1 108),o 110 (bi .eql 109 0),m 111 110,y 112 111 (fa 2 5),y 113 111 (ld 1 112),y 114 111 (bi .eql 113 0),o 115 (pf 111 114),m 116 115,y 117 116 (fa 3 5),y 118 116 (ld 1 117),y 119 116 (le 118),y 120 116 (bi .gtr 119 0),o 121 (pf 116 120),m 122 121,y 123 122 (fa 3 5),y 124 122 (ld 1 123),y 125 122 (cf yE [(.t 124),(ki 8)]),o 126 (pf 122 125),m 4 126] r)) k)))))))))) (g [W 4 kf] r))))⟩
def U0:List (List Nat):=[[1,5,6]]
def xe:AFunc:=⟨106,[.tmp 4],(g [W 4 kn] (g [W 5 kn] (q (g [m 12 1,o 13 (bi .gtr 12 0)] (c 13 (p [m 14 0,m 15 1,o 16 (bi .sub 15 1),o 17 (cg xm [14,16]),m 5 17]) k)) (g [W 6 kn] (q (g [V 7 0] (bl 0 (lo [0,1,5,6,7] (q (g [m 18 7,m 19 0,o 20 (le 19),o 21 (b .lss 18 20)] (c 21 k (e 0))) (q (bl 1 (g [m 24 0,m 25 7,o 26 (ia 4 24 25),o 27 (lg 4 26),o 28 (cg uX [27]),V 8 1,m 9 28] (q (g [V 10 0] (bl 2 (lo [0,1,5,6,7,8,9,10] (q (g [m 29 10,m 30 9,o 31 (le 30),o 32 (b .lss 29 31)] (c 32 k (e 2))) (q (bl 3 (g [V 11 1] (q (g [m 35 0,m 36 7,o 37 (ia 4 35 36),o 38 (fa 0 37),o 39 (ld 1 38),o 40 (bu .eql 39 6)] (c 40 (p [m 41 0,m 42 7,o 43 (ia 4 41 42),o 44 (fa 2 43),o 45 (ld 1 44),m 11 45]) k)) (p [m 46 8,m 47 11,m 48 6,m 49 9,m 50 10,o 51 (ia 1 49 50),o 52 (ld 1 51),o 53 (ia 1 48 52),o 54 (ld 1 53),o 55 (b .mul 47 54),o 56 (b .add 46 55),o 57 (.mn (.t 56) (ki 5001)),m 8 57])))) (p [m 33 10,o 34 (bi .add 33 1),m 10 34])))))) (q (g [m 58 1,o 59 (bi .gtr 58 0),m 60 59,y 61 60 (mt 0),y 62 60 (mt 7),y 63 60 (ia 4 61 62),y 64 60 (fa 0 63),y 65 60 (ld 1 64),y 66 60 (bu .eql 65 4),o 67 (pf 60 66)] (c 67 (p [m 68 8,m 69 5,m 70 0,m 71 7,o 72 (ia 4 70 71),o 73 (fa 1 72),o 74 (ld 1 73),o 75 (ia 1 69 74),o 76 (ld 1 75),o 77 (b .add 68 76),o 78 (.mn (.t 77) (ki 5001)),m 8 78]) k)) (q (g [m 79 1,o 80 (bi .gtr 79 0),m 81 80,y 82 81 (mt 0),y 83 81 (mt 7),y 84 81 (ia 4 82 83),y 85 81 (fa 0 84),y 86 81 (ld 1 85),y 87 81 (bu .eql 86 7),o 88 (pf 81 87)] (c 88 (p [m 89 8,m 90 5,m 91 0,m 92 7,o 93 (ia 4 91 92),o 94 (fa 1 93),o 95 (ld 1 94),o 96 (ia 1 90 95),o 97 (ld 1 96),o 98 (.bin .mul (ki 16) (.t 97)),o 99 (b .add 89 98),o 100 (.mn (.t 99) (ki 5001)),m 8 100]) k)) (p [m 101 6,m 102 8,o 103 (li 1 [102]),o 104 (ap 1 8 101 103),m 6 104])))))) (p [m 22 7,o 23 (bi .add 22 1),m 7 23])))))) (g [m 105 6,m 4 105] r))))))⟩
def Xh:List (List Nat):=[[0,1,5,6,7],[0,1,5,6,7,8,9,10]]
def uH:AFunc:=⟨41,[.tmp 2],(g [W 2 kf] (q (g [m 4 0,o 5 (.lenS (.t 4)),o 6 (bi .lss 5 1),m 7 6,z 8 7 (mt 0),z 9 7 (.lenS (.t 8)),z 10 7 (bi .gtr 9 16),o 11 (pt 7 10),m 12 11,z 13 12 (mt 0),z 14 12 (.indexS (.t 13) (ki 0)),z 15 12 (cg yD [14]),z 16 12 (.un .not (.t 15)),o 17 (pt 12 16)] (c 17 (g [W 2 kf] r) k)) (q (g [V 3 0] (bl 0 (lo [0,3] (q (g [m 18 3,m 19 0,o 20 (.lenS (.t 19)),o 21 (b .lss 18 20)] (c 21 k (e 0))) (q (bl 1 (g [m 24 0,m 25 3,o 26 (.indexS (.t 24) (.t 25)),o 27 (cg yD [26]),o 28 (.un .not (.t 27)),m 29 28,y 30 29 (mt 0),y 31 29 (mt 3),y 32 29 (.indexS (.t 30) (.t 31)),y 33 29 (bu .lss 32 48),y 34 29 (mt 33),z 35 34 (mt 0),z 36 34 (mt 3),z 37 34 (.indexS (.t 35) (.t 36)),z 38 34 (bu .gtr 37 57),y 39 29 (pt 34 38),o 40 (pf 29 39)] (c 40 (g [W 2 kf] r) k))) (p [m 22 3,o 23 (bi .add 22 1),m 3 23])))))) (g [W 2 kt] r))))⟩
def WO:List (List Nat):=[[0,3]]
def u7:AFunc:=⟨40,[.tmp 4],(g [W 4 kf] (q (g [m 7 0,o 8 (le 7),m 9 1,o 10 (b .gtr 8 9)] (c 10 (g [W 4 kf] r) k)) (q (g [V 5 0] (bl 0 (lo [0,5] (q (g [m 11 5,m 12 0,o 13 (le 12),o 14 (b .lss 11 13)] (c 14 k (e 0))) (q (bl 1 (q (g [m 17 0,m 18 5,o 19 (ia 2 17 18),o 20 (fa 0 19),o 21 (ld 1 20),o 22 (cg xP [21]),o 23 (.un .not (.t 22))] (c 23 (g [W 4 kf] r) k)) (g [V 6 0] (bl 2 (lo [0,5,6] (q (g [m 24 6,m 25 5,o 26 (b .lss 24 25)] (c 26 k (e 2))) (q (bl 3 (q (.draw [m 29 0,m 30 6,o 31 (ia 2 29 30),o 32 (fa 0 31),o 33 (ld 1 32),m 34 0,m 35 5,o 36 (ia 2 34 35),o 37 (fa 0 36),o 38 (ld 1 37),o 39 (b .eql 33 38)]) (c 39 (g [W 4 kf] r) k))) (p [m 27 6,o 28 (bi .add 27 1),m 6 28])))))))) (p [m 15 5,o 16 (bi .add 15 1),m 5 16])))))) (g [W 4 kt] r))))⟩
def Xk:List (List Nat):=[[0,5],[0,5,6]]
def tC:AFunc:=⟨61,[.tmp 4],(g [W 4 kf] (q (g [m 6 0,o 7 (le 6),o 8 (bi .lss 7 1),m 9 8,z 10 9 (mt 0),z 11 9 (.iaddr 2 (.t 10) (ki 0)),z 12 9 (fa 0 11),z 13 9 (ld 1 12),z 14 9 (bi .neq 13 0),o 15 (pt 9 14)] (c 15 (g [W 4 kf] r) k)) (q (g [V 5 0] (bl 0 (lo [0,1,5] (q (g [m 16 5,m 17 0,o 18 (le 17),o 19 (b .lss 16 18)] (c 19 k (e 0))) (q (bl 1 (q (.draw [m 22 0,m 23 5,o 24 (ia 2 22 23),o 25 (fa 0 24),o 26 (ld 1 25),m 27 1,o 28 (b .geq 26 27),m 29 28,z 30 29 (mt 5),z 31 29 (bi .gtr 30 0),z 32 29 (mt 31),y 33 32 (mt 0),y 34 32 (mt 5),y 35 32 (bi .sub 34 1),y 36 32 (ia 2 33 35),y 37 32 (fa 0 36),y 38 32 (ld 1 37),y 39 32 (mt 0),y 40 32 (mt 5),y 41 32 (ia 2 39 40),y 42 32 (fa 0 41),y 43 32 (ld 1 42),y 44 32 (b .geq 38 43),y 45 32 (mt 44),z 46 45 (mt 0),z 47 45 (mt 5),z 48 45 (bi .sub 47 1),z 49 45 (ia 2 46 48),z 50 45 (fa 1 49),z 51 45 (ld 1 50),z 52 45 (mt 0),z 53 45 (mt 5),z 54 45 (ia 2 52 53),z 55 45 (fa 1 54),z 56 45 (ld 1 55),z 57 45 (b .eql 51 56),y 58 32 (pt 45 57),z 59 29 (pf 32 58),o 60 (pt 29 59)]) (c 60 (g [W 4 kf] r) k))) (p [m 20 5,o 21 (bi .add 20 1),m 5 21])))))) (g [W 4 kt] r))))⟩
def VW:List (List Nat):=[[0,1,5]]
def yB:AFunc:=⟨19,[.tmp 4],(g [V 4 0] (q (g [m 6 0,o 7 (le 6),V 8 0] (bl 0 (lo [0,1,7,8] (g [o 9 (b .lss 8 7)] (q (c 9 k (e 0)) (q (bl 1 (g [m 10 8,m 5 10] (g [m 11 1,m 12 0,m 13 5,o 14 (ia 1 12 13),o 15 (ld 1 14),o 16 (.call (.t 11) [(.t 15)])] (c 16 (g [m 17 5,m 4 17] r) k)))) (p [o 18 (bi .add 8 1),m 8 18]))))))) (g [V 4 (-1)] r)))⟩
def kY:List (List Nat):=[[0,1,7,8]]
def yY:AFunc:=⟨9,[.tmp 4],(g [W 4 kf] (g [m 5 0,m 6 1,o 7 (cg xD [5,6]),o 8 (bi .geq 7 0),m 4 8] r))⟩
def jK:List (List Nat):=[]
def vp:AFunc:=⟨8,[.tmp 3],(g [W 3 kf] (g [o 4 (lg 10 1),m 5 0,o 6 (.lit 1 [(ku 1),(ku 2),(ku 4)]),o 7 (cg zu [4,5,6]),m 3 7] r))⟩
def ZT:List (List Nat):=[]
def qo:AFunc:=⟨7,[],(p [o 4 (.sliceA 3 4 (.t 1) none none),m 5 0,o 6 (.ext (.copy 4 (.t 4) (.t 5))),s 1 2 (.t 6)])⟩
def z30:List (List Nat):=[]
def Un:AFunc:=⟨2,[.cell 0 true 4],(g [o 0 (.alloc [iz,iz,.bool false,.bool false])] (g [o 1 (.build [iz,iz,.bool false,.bool false] [(0,1,(ki 0)),(1,1,(ki 15)),(2,1,kf),(3,1,kt)]),s 4 0 (.t 1)] r))⟩
def z63:List (List Nat):=[]
def Uo:AFunc:=⟨2,[.cell 0 true 4],(g [o 0 (.alloc [iz,iz,.bool false,.bool false])] (g [o 1 (.build [iz,iz,.bool false,.bool false] [(0,1,(ki (-9223372036854775808))),(1,1,(ki 9223372036854775807)),(2,1,kf),(3,1,kf)]),s 4 0 (.t 1)] r))⟩
def z64:List (List Nat):=[]
def Uq:AFunc:=⟨6,[.cell 2 true 4],(g [o 2 (.alloc [iz,iz,.bool false,.bool false])] (g [m 3 0,o 4 (bi .sub 3 1),o 5 (.build [iz,iz,.bool false,.bool false] [(0,1,(ki 0)),(1,1,(.t 4)),(2,1,kf),(3,1,kf)]),s 4 2 (.t 5)] r))⟩
def z66:List (List Nat):=[]
def Tz:AFunc:=⟨2,[.cell 0 true 4],(g [o 0 (.alloc [iz,iz,.bool false,.bool false])] (g [o 1 (.build [iz,iz,.bool false,.bool false] [(0,1,(ki 0)),(1,1,(ki 15)),(2,1,kt),(3,1,kf)]),s 4 0 (.t 1)] r))⟩
def z7v:List (List Nat):=[]
def uq:AFunc:=⟨52,[.tmp 8,.tmp 9],(g [o 4 (bx 3 0),o 6 (bx 4 2),W 8 kn,W 9 kf] (g [o 15 (lg 3 4),m 16 1,o 17 (lg 4 6),o 18 (cg ue [15,16,17]),m 14 18,o 19 (ex 14 0),o 20 (ex 14 1),m 10 19,m 11 20] (g [m 21 3,o 22 (le 21),m 23 10,o 24 (le 23),o 25 (b .sub 22 24),m 12 25] (q (g [m 26 12,o 27 (bi .lss 26 0),m 28 27,z 29 28 (mt 3),z 30 28 (mt 12),z 31 28 (.slice 1 (.t 29) (some (.t 30)) none none),z 32 28 (mt 10),z 33 28 (cg yW [31,32]),z 34 28 (.un .not (.t 33)),o 35 (pt 28 34)] (c 35 (g [W 8 kn,W 9 kf] r) k)) (g [o 36 (li 1 []),m 37 3,m 38 12,o 39 (.slice 1 (.t 37) none (some (.t 38)) none),o 40 (ap 1 8 36 39),m 13 40] (q (g [m 41 11,o 42 (bi .geq 41 0)] (c 42 (p [m 43 13,m 44 11,o 45 (li 1 [44]),o 46 (ap 1 8 43 45),m 13 46]) k)) (g [m 47 13,o 48 (lg 3 4),m 49 13,o 50 (cg yJ [48,49]),o 51 (bi .leq 50 4096),m 8 47,m 9 51] r)))))))⟩
def Ww:List (List Nat):=[]
def Y0:AFunc:=⟨29,[.tmp 2],(g [V 2 0] (q (g [m 6 0,o 7 (le 6),o 8 (bi .gtr 7 32)] (c 8 (g [V 2 8] r) k)) (q (g [m 9 0,o 10 (le 9),V 11 0] (bl 0 (lo [0,10,11] (g [o 12 (b .lss 11 10)] (q (c 12 k (e 0)) (q (bl 1 (g [m 13 11,m 3 13] (g [m 14 0,m 15 3,o 16 (cg XS [14,15]),o 17 (.un .not (.t 16))] (c 17 (g [V 2 8] r) k)))) (p [o 18 (bi .add 11 1),m 11 18]))))))) (q (g [m 19 0,o 20 (cg j8 [19]),o 21 (le 20),V 22 0] (bl 2 (lo [20,21,22] (g [o 23 (b .lss 22 21)] (q (c 23 k (e 2)) (q (bl 3 (g [o 24 (ia 1 20 22),o 25 (ld 1 24),m 5 25] (g [m 26 5,o 27 (bi .gtr 26 5000)] (c 27 (g [V 2 8] r) k)))) (p [o 28 (bi .add 22 1),m 22 28]))))))) (g [V 2 0] r)))))⟩
def z33:List (List Nat):=[[0,10,11],[20,21,22]]
def jB:AFunc:=⟨27,[.tmp 4,.tmp 5,.tmp 6],(g [V 4 0,V 5 0,V 6 0] (g [m 9 0,m 10 1,o 11 (cg tS [9,10]),m 8 11,o 12 (ex 8 0),o 13 (ex 8 1),m 7 12,m 6 13] (q (g [m 14 6,o 15 (bi .neq 14 0)] (c 15 (g [m 16 6,V 4 0,V 5 0,m 6 16] r) k)) (q (.draw [m 17 7,m 18 1,o 19 (ia 2 17 18),o 20 (fa 0 19),o 21 (ld 1 20),m 22 7,m 23 1,o 24 (ia 2 22 23),o 25 (fa 1 24),o 26 (ld 1 25),m 4 21,m 5 26,V 6 0]) r))))⟩
def z31:List (List Nat):=[]
def jt:AFunc:=⟨95,[.tmp 4],(g [o 3 (bx 7 1),W 4 kf] (q (g [o 9 (fa 0 3),o 10 (ld 1 9),o 11 (cg ul [10]),o 12 (.un .not (.t 11)),m 13 12,z 14 13 (fa 3 3),z 15 13 (ld 1 14),z 16 13 (le 15),z 17 13 (bi .gtr 16 16),o 18 (pt 13 17),m 19 18,z 20 19 (fa 3 3),z 21 19 (ld 1 20),z 22 19 (cg Y8 [21]),z 23 19 (.un .not (.t 22)),o 24 (pt 19 23),m 25 24,z 26 25 (fa 1 3),z 27 25 (ld 1 26),z 28 25 (bi .lss 27 0),o 29 (pt 25 28),m 30 29,z 31 30 (fa 1 3),z 32 30 (ld 1 31),z 33 30 (fa 3 3),z 34 30 (ld 1 33),z 35 30 (le 34),z 36 30 (b .gtr 32 35),o 37 (pt 30 36),m 38 37,z 39 38 (fa 2 3),z 40 38 (ld 1 39),z 41 38 (bi .lss 40 (-1)),o 42 (pt 38 41),m 43 42,z 44 43 (fa 2 3),z 45 43 (ld 1 44),z 46 43 (mt 0),z 47 43 (le 46),z 48 43 (b .geq 45 47),o 49 (pt 43 48)] (c 49 (g [W 4 kf] r) k)) (q (g [o 50 (fa 3 3),o 51 (ld 1 50),o 52 (le 51),V 53 0] (bl 0 (lo [0,3,51,52,53] (g [o 54 (b .lss 53 52)] (q (c 54 k (e 0)) (q (bl 1 (g [o 55 (ia 2 51 53),o 56 (lg 2 55),o 6 (.alloc [.str [],iz]),s 2 6 (.t 56)] (g [o 57 (fa 1 6),o 58 (ld 1 57),o 59 (bi .lss 58 0),m 60 59,z 61 60 (fa 1 6),z 62 60 (ld 1 61),z 63 60 (mt 0),z 64 60 (le 63),z 65 60 (b .geq 62 64),o 66 (pt 60 65)] (c 66 (g [W 4 kf] r) k)))) (p [o 67 (bi .add 53 1),m 53 67]))))))) (q (g [o 68 (fa 4 3),o 69 (ld 1 68),o 70 (le 69),V 71 0] (bl 2 (lo [3,69,70,71] (g [o 72 (b .lss 71 70)] (q (c 72 k (e 2)) (q (bl 3 (g [o 73 (ia 4 69 71),o 74 (lg 4 73),o 8 (.alloc [.int .u8 (0),iz,iz,iz]),s 4 8 (.t 74)] (g [o 75 (lg 4 8),o 76 (cg qK [75]),o 77 (bi .neq 76 0)] (c 77 (g [W 4 kf] r) k)))) (p [o 78 (bi .add 71 1),m 71 78]))))))) (g [o 79 (fa 5 3),o 80 (ld 1 79),o 81 (fa 4 3),o 82 (ld 1 81),o 83 (le 82),o 84 (cg tQ [80,83]),o 85 (bi .eql 84 0),m 86 85,y 87 86 (fa 6 3),y 88 86 (ld 1 87),y 89 86 (fa 4 3),y 90 86 (ld 1 89),y 91 86 (le 90),y 92 86 (cg tQ [88,91]),y 93 86 (bi .eql 92 0),o 94 (pf 86 93),m 4 94] r)))))⟩
def QI:List (List Nat):=[[0,3,51,52,53],[3,69,70,71]]
def uM:AFunc:=⟨25,[],(g [m 6 0,m 7 1,o 8 (le 7),o 9 (cg zp [6,8])] (g [m 10 1,o 11 (le 10),V 12 0] (bl 0 (lo [0,10,11,12] (g [o 13 (b .lss 12 11)] (q (c 13 k (e 0)) (q (bl 1 (g [o 14 (ia 2 10 12),o 15 (lg 2 14),o 5 (.alloc [.str [],iz]),s 2 5 (.t 15)] (g [m 16 0,o 17 (fa 0 5),o 18 (ld 1 17),o 19 (cg yH [16,18])] (p [m 20 0,o 21 (fa 1 5),o 22 (ld 1 21),o 23 (cg zp [20,22])])))) (p [o 24 (bi .add 12 1),m 12 24]))))))))⟩
def WX:List (List Nat):=[[0,10,11,12]]
def Um:AFunc:=⟨20,[.tmp 2],(g [W 2 kn] (g [o 3 (.alloc [.nils])] (g [o 5 (.mkfn (.func qp) [] [(.t 3)]),m 4 5] (q (bl 0 (lo [0,3,4] (q (g [m 6 0,o 7 (.bin .geq (.t 6) (.c (.int .u64 (128))))] (c 7 k (e 0))) (q (bl 1 (p [m 10 4,m 11 0,o 12 (.conv .u8 (.t 11)),o 13 (bu .or 12 128),o 14 (.call (.t 10) [(.t 13)])])) (p [m 8 0,o 9 (.bin .shr (.t 8) (.c (.int .u64 (7)))),m 0 9]))))) (g [m 15 4,m 16 0,o 17 (.conv .u8 (.t 16)),o 18 (.call (.t 15) [(.t 17)])] (g [o 19 (ld 1 3),m 2 19] r))))))⟩
def z62:List (List Nat):=[[0,3,4]]
def ZW:AFunc:=⟨11,[.tmp 2],(g [W 2 kn] (g [m 3 0,o 4 (.conv .u64 (.t 3)),o 5 (.bin .shl (.t 4) (.c (.int .u64 (1)))),m 6 0,o 7 (.bin .shr (.t 6) (.c (.int .u64 (63)))),o 8 (.conv .u64 (.t 7)),o 9 (b .xor 5 8),o 10 (cg vQ [9]),m 2 10] r))⟩
def z2X:List (List Nat):=[]
def XJ:AFunc:=⟨51,[.tmp 2,.tmp 3],(g [o 1 (bx 4 0),W 2 kn,V 3 0] (q (g [o 10 (lg 4 1),o 11 (cg qK [10]),m 4 11] (g [m 12 4,o 13 (bi .neq 12 0)] (c 13 (g [m 14 4,W 2 kn,m 3 14] r) k))) (g [o 16 (fa 0 1),o 17 (ld 1 16),o 18 (cg jR [17]),m 15 18,o 19 (ex 15 0),o 20 (ex 15 1),o 5 (.alloc [iz,iz,.bool false,.bool false,iz,iz,.bool false,.bool false,iz,iz,.bool false,.bool false]),s 12 5 (.t 19),m 6 20] (g [o 21 (fa 0 1),o 22 (ld 1 21),o 23 (li 1 [22]),m 7 23] (q (g [o 24 (lg 4 1),o 25 (cg tR [24]),V 26 0] (bl 0 (lo [5,6,7,25,26] (g [o 27 (bi .lss 26 3)] (q (c 27 k (e 0)) (q (bl 1 (g [m 28 26,o 29 (.indexA 3 1 false (.t 25) (.t 26)),m 8 28,m 9 29] (bl 2 (g [m 36 8,m 37 6,o 38 (b .geq 36 37),m 35 38] (c 35 k (g [m 40 8,o 41 (.iaddrA 3 4 (.t 5) (.t 40)),o 42 (fa 0 41),o 43 (ld 1 42),o 44 (bi .lss 43 0),m 39 44] (c 39 (p [m 45 7,m 46 9,o 47 (cg jC [46]),o 48 (ap 1 1 45 47),m 7 48]) (p [m 30 7,m 31 9,o 32 (.conv .u64 (.t 31)),o 33 (cg vQ [32]),o 34 (ap 1 1 30 33),m 7 34])))))))) (p [o 49 (bi .add 26 1),m 26 49]))))))) (g [m 50 7,m 2 50,V 3 0] r))))))⟩
def z4K:List (List Nat):=[[5,6,7,25,26]]
def jU:AFunc:=⟨44,[.tmp 4,.tmp 5],(g [W 4 kn,V 5 0] (q (g [m 11 0,m 12 1,o 13 (cg tQ [11,12]),m 6 13] (g [m 14 6,o 15 (bi .neq 14 0)] (c 15 (g [m 16 6,W 4 kn,m 5 16] r) k))) (g [m 17 0,o 18 (le 17),o 19 (.conv .u64 (.t 18)),o 20 (cg vQ [19]),m 7 20] (g [V 8 0] (q (g [m 21 0,o 22 (le 21),V 23 0] (bl 0 (lo [7,8,21,22,23] (g [o 24 (b .lss 23 22)] (q (c 24 k (e 0)) (q (bl 1 (g [o 25 (ia 2 21 23),o 26 (lg 2 25),o 10 (.alloc [iz,.int .u64 (0)]),s 2 10 (.t 26)] (g [m 27 7,o 28 (fa 0 10),o 29 (ld 1 28),m 30 8,o 31 (b .sub 29 30),o 32 (.conv .u64 (.t 31)),o 33 (cg vQ [32]),o 34 (ap 1 1 27 33),m 7 34] (g [m 35 7,o 36 (fa 1 10),o 37 (ld 1 36),o 38 (cg vQ [37]),o 39 (ap 1 1 35 38),m 7 39] (p [o 40 (fa 0 10),o 41 (ld 1 40),m 8 41]))))) (p [o 42 (bi .add 23 1),m 23 42]))))))) (g [m 43 7,m 4 43,V 5 0] r))))))⟩
def z0x:List (List Nat):=[[7,8,21,22,23]]
def Y4:AFunc:=⟨36,[.tmp 4],(g [W 4 kn] (q (g [m 7 0,m 8 1,o 9 (ia 4 7 8),o 10 (lg 4 9),o 5 (.alloc [.int .u8 (0),iz,iz,iz]),s 4 5 (.t 10)] (g [o 11 (fa 0 5),o 12 (ld 1 11)] (bl 0 (q (g [o 14 (bu .eql 12 34),m 13 14] (c 13 k (g [o 15 (bu .eql 12 28),m 13 15] (c 13 k (p [o 16 (bu .eql 12 30),m 13 16]))))) (c 13 (g [W 4 kn] r) (g [o 18 (bu .eql 12 22),m 17 18] (c 17 (g [o 19 (fa 1 5),o 20 (ld 1 19),o 21 (li 1 [20]),m 4 21] r) (g [o 23 (bu .eql 12 23),m 22 23] (c 22 (g [m 24 1,o 25 (bi .add 24 1),o 26 (fa 2 5),o 27 (ld 1 26),o 28 (.ext (.litB 1 [(.t 25),(.t 27)])),m 6 28] (g [m 29 6,o 30 (cg xR [29])] (g [m 31 6,o 32 (cg zS [31]),m 4 32] r))) k))))))))) (g [m 33 1,o 34 (bi .add 33 1),o 35 (li 1 [34]),m 4 35] r)))⟩
def z37:List (List Nat):=[[777777,28]]
def xH:AFunc:=⟨9,[.tmp 2],(g [W 2 kn] (g [m 3 0,m 4 0,o 5 (le 4),m 6 0,o 7 (le 6),o 8 (.slice 1 (.t 3) none (some (.t 5)) (some (.t 7))),m 2 8] r))⟩
def WV:List (List Nat):=[]
def Z6:AFunc:=⟨13,[.tmp 2,.tmp 3],(g [V 2 0,V 3 0] (q (g [m 4 0,o 5 (bi .lss 4 0),m 6 5,z 7 6 (mt 0),z 8 6 (bi .gtr 7 1073741824),o 9 (pt 6 8)] (c 9 (g [V 2 0,V 3 2] r) k)) (g [m 10 0,o 11 (bi .add 10 7),o 12 (bi .andNot 11 7),m 2 12,V 3 0] r)))⟩
def z1C:List (List Nat):=[]
def uG:AFunc:=⟨30,[.tmp 2],(g [o 1 (bx 4 0),W 2 kn] (g [W 3 kn] (q (g [o 5 (fa 0 1),o 6 (ld 1 5),o 7 (bu .eql 6 6)] (c 7 (p [m 8 3,o 9 (fa 1 1),o 10 (ld 1 9),o 11 (li 1 [10]),o 12 (ap 1 8 8 11),m 3 12]) k)) (q (g [V 4 0] (bl 0 (lo [1,3,4] (q (g [m 13 4,o 14 (fa 3 1),o 15 (ld 1 14),o 16 (le 15),o 17 (b .lss 13 16)] (c 17 k (e 0))) (q (bl 1 (p [m 20 3,o 21 (fa 3 1),o 22 (ld 1 21),m 23 4,o 24 (ia 2 22 23),o 25 (fa 1 24),o 26 (ld 1 25),o 27 (li 1 [26]),o 28 (ap 1 8 20 27),m 3 28])) (p [m 18 4,o 19 (bi .add 18 1),m 4 19])))))) (g [m 29 3,m 2 29] r)))))⟩
def WN:List (List Nat):=[[1,3,4]]
def u6:AFunc:=⟨17,[.tmp 2],(g [W 2 kf] (g [m 3 0,o 4 (bu .geq 3 97),m 5 4,y 6 5 (mt 0),y 7 5 (bu .leq 6 122),o 8 (pf 5 7),m 9 8,z 10 9 (mt 0),z 11 9 (bu .geq 10 65),z 12 9 (mt 11),y 13 12 (mt 0),y 14 12 (bu .leq 13 90),z 15 9 (pf 12 14),o 16 (pt 9 15),m 2 16] r))⟩
def Xj:List (List Nat):=[]
def xz:AFunc:=⟨19,[.tmp 4],(g [V 4 0] (q (g [m 6 0,o 7 (le 6),V 8 0] (bl 0 (lo [0,1,7,8] (g [o 9 (b .lss 8 7)] (q (c 9 k (e 0)) (q (bl 1 (g [m 10 8,m 5 10] (g [m 11 1,m 12 0,m 13 5,o 14 (ia 1 12 13),o 15 (ld 1 14),o 16 (b .eql 11 15)] (c 16 (g [m 17 5,m 4 17] r) k)))) (p [o 18 (bi .add 8 1),m 8 18]))))))) (g [V 4 (-1)] r)))⟩
def kW:List (List Nat):=[[0,1,7,8]]
def XN:AFunc:=⟨118,[.tmp 4],(g [W 4 kf] (g [m 10 0,m 11 1,o 12 (ia 4 10 11),o 13 (lg 4 12),o 5 (.alloc [.int .u8 (0),iz,iz,.nils]),s 4 5 (.t 13)] (g [o 6 (v (.c (.fn (.func tT) [] [])))] (q (g [o 14 (fa 0 5),o 15 (ld 1 14)] (bl 0 (q (g [o 17 (bu .eql 15 1),m 16 17] (c 16 k (g [o 18 (bu .eql 15 2),m 16 18] (c 16 k (p [o 19 (bu .eql 15 3),m 16 19]))))) (c 16 (g [o 20 (fa 1 5),o 21 (ld 1 20),o 22 (fa 2 5),o 23 (ld 1 22),o 24 (fa 3 5),o 25 (ld 1 24),o 26 (le 25),o 27 (li 1 [21,23,26]),o 28 (cg yr [27]),m 4 28] r) (q (g [o 30 (bu .eql 15 4),m 29 30] (c 29 k (p [o 31 (bu .eql 15 7),m 29 31]))) (c 29 (g [m 32 6,o 33 (fa 1 5),o 34 (ld 1 33),m 35 0,o 36 (le 35),o 37 (.call (.t 32) [(.t 34),(.t 36)]),m 38 37,y 39 38 (fa 2 5),y 40 38 (ld 1 39),y 41 38 (fa 3 5),y 42 38 (ld 1 41),y 43 38 (le 42),y 44 38 (li 1 [40,43]),y 45 38 (cg yr [44]),o 46 (pf 38 45),m 4 46] r) (g [o 48 (bu .eql 15 6),m 47 48] (c 47 (g [m 49 6,o 50 (fa 1 5),o 51 (ld 1 50),m 52 1,o 53 (.call (.t 49) [(.t 51),(.t 52)]),m 54 53,y 55 54 (mt 6),y 56 54 (fa 2 5),y 57 54 (ld 1 56),y 58 54 (bi .sub 57 1),y 59 54 (.call (.t 55) [(.t 58),(ki 16)]),o 60 (pf 54 59),m 61 60,y 62 61 (fa 3 5),y 63 61 (ld 1 62),y 64 61 (le 63),y 65 61 (li 1 [64]),y 66 61 (cg yr [65]),o 67 (pf 61 66),m 4 67] r) (g [o 69 (bu .eql 15 5),m 68 69] (c 68 (g [o 70 (.ext .mkmap),m 7 70] (q (g [o 71 (fa 3 5),o 72 (ld 1 71),o 73 (le 72),V 74 0] (bl 1 (lo [1,5,6,7,72,73,74] (g [o 75 (b .lss 74 73)] (q (c 75 k (e 1)) (q (bl 2 (g [o 76 (ia 2 72 74),o 77 (lg 2 76),o 9 (.alloc [.str [],iz]),s 2 9 (.t 77)] (q (g [o 78 (fa 0 9),o 79 (ld 1 78),o 80 (cg ul [79]),o 81 (.un .not (.t 80)),m 82 81,z 83 82 (mt 7),z 84 82 (fa 0 9),z 85 82 (ld 1 84),z 86 82 (.ext (.mget true (.bool false) (.t 83) (.t 85))),o 87 (pt 82 86),m 88 87,z 89 88 (mt 6),z 90 88 (fa 1 9),z 91 88 (ld 1 90),z 92 88 (mt 1),z 93 88 (.call (.t 89) [(.t 91),(.t 92)]),z 94 88 (.un .not (.t 93)),o 95 (pt 88 94)] (c 95 (g [W 4 kf] r) k)) (p [m 96 7,o 97 (fa 0 9),o 98 (ld 1 97),⟨none,.ext (.mput true (.t 96) (.t 98) kt),none,false⟩])))) (p [o 99 (bi .add 74 1),m 74 99]))))))) (g [o 100 (fa 1 5),o 101 (ld 1 100),o 102 (fa 2 5),o 103 (ld 1 102),o 104 (li 1 [101,103]),o 105 (cg yr [104]),m 106 105,y 107 106 (fa 3 5),y 108 106 (ld 1 107),y 109 106 (le 108),y 110 106 (bi .gtr 109 0),o 111 (pf 106 110),m 112 111,y 113 112 (fa 3 5),y 114 112 (ld 1 113),y 115 112 (le 114),y 116 112 (bi .leq 115 8),o 117 (pf 112 116),m 4 117] r))) k)))))))))) (g [W 4 kf] r)))))⟩
def z4N:List (List Nat):=[[1,5,6,7,72,73,74]]
def Z8:AFunc:=⟨82,[.tmp 2],(g [W 2 kn] (g [m 10 0,o 11 (le 10),o 12 (.make 1 8 [iz] (.t 11) (.t 11)),m 3 12] (q (g [V 13 0] (bl 0 (lo [0,3,13,999999] (g [o 14 (bi .lss 13 4)] (q (c 14 k (e 0)) (q (bl 1 (g [m 15 0,o 16 (le 15),o 17 (.make 1 8 [iz] (.t 16) (.t 16)),m 4 17] (q (g [m 18 0,o 19 (le 18),V 20 0] (bl 2 (lo [0,3,4,13,18,19,20] (g [o 21 (b .lss 20 19)] (q (c 21 k (e 2)) (q (bl 3 (g [m 22 20,o 23 (ia 4 18 20),o 24 (lg 4 23),o 6 (.alloc [.int .u8 (0),iz,iz,.nils]),m 5 22,s 4 6 (.t 24)] (g [V 7 1] (q (g [o 25 (fa 0 6),o 26 (ld 1 25)] (bl 4 (g [o 28 (bu .eql 26 4),m 27 28] (c 27 (p [m 29 7,m 30 3,o 31 (fa 1 6),o 32 (ld 1 31),o 33 (ia 1 30 32),o 34 (ld 1 33),o 35 (b .add 29 34),m 7 35]) (g [o 37 (bu .eql 26 7),m 36 37] (c 36 (p [m 38 7,m 39 3,o 40 (fa 1 6),o 41 (ld 1 40),o 42 (ia 1 39 41),o 43 (ld 1 42),o 44 (.bin .mul (ki 16) (.t 43)),o 45 (b .add 38 44),m 7 45]) (g [o 47 (bu .eql 26 6),m 46 47] (c 46 (.draw [m 48 7,o 49 (fa 2 6),o 50 (ld 1 49),m 51 4,o 52 (fa 1 6),o 53 (ld 1 52),o 54 (ia 1 51 53),o 55 (ld 1 54),o 56 (b .mul 50 55),o 57 (b .add 48 56),m 7 57]) k)))))))) (q (g [o 58 (fa 3 6),o 59 (ld 1 58),o 60 (le 59),V 61 0] (bl 5 (lo [0,3,4,5,7,13,18,19,20,59,60,61] (g [o 62 (b .lss 61 60)] (q (c 62 k (e 5)) (q (bl 6 (g [o 63 (ia 2 59 61),o 64 (lg 2 63),o 9 (.alloc [.str [],iz]),s 2 9 (.t 64)] (p [m 65 7,m 66 4,o 67 (fa 1 9),o 68 (ld 1 67),o 69 (ia 1 66 68),o 70 (ld 1 69),o 71 (b .add 65 70),m 7 71]))) (p [o 72 (bi .add 61 1),m 61 72]))))))) (p [m 73 4,m 74 5,m 75 7,o 76 (.mn (.t 75) (ki 5001)),o 77 (ia 1 73 74),s 1 77 (.t 76)])))))) (p [o 78 (bi .add 20 1),m 20 78]))))))) (p [m 79 4,m 3 79])))) (p [o 80 (bi .add 13 1),m 13 80]))))))) (g [m 81 3,m 2 81] r))))⟩
def z1E:List (List Nat):=[[0,3,13,999999],[0,3,4,13,18,19,20],[0,3,4,5,7,13,18,19,20,59,60,61]]
def j0:AFunc:=⟨30,[.tmp 4,.tmp 5],(g [W 4 kn,V 5 0] (q (g [m 8 0,o 9 (cg um [8]),m 6 9] (g [m 10 6,o 11 (bi .neq 10 0)] (c 11 (g [m 12 6,W 4 kn,m 5 12] r) k))) (q (g [m 13 1,o 14 (bi .lss 13 0),m 15 14,z 16 15 (mt 1),z 17 15 (mt 0),z 18 15 (le 17),z 19 15 (b .geq 16 18),o 20 (pt 15 19)] (c 20 (g [W 4 kn,V 5 2] r) k)) (g [m 21 0,o 22 (cg qa [21]),m 7 22] (q (g [m 23 7,m 24 1,o 25 (ia 2 23 24),o 26 (fa 0 25),o 27 (ld 1 26),o 28 (bi .gtr 27 256)] (c 28 (g [W 4 kn,V 5 16] r) k)) (g [m 29 7,m 4 29,V 5 0] r))))))⟩
def z1B:List (List Nat):=[]
def ZZ:AFunc:=⟨47,[.tmp 2],(g [W 2 kf] (q (g [m 5 0,o 6 (.lenS (.t 5)),o 7 (bi .eql 6 0),m 8 7,z 9 8 (mt 0),z 10 8 (.lenS (.t 9)),z 11 8 (bi .gtr 10 16),o 12 (pt 8 11),m 13 12,z 14 13 (mt 0),z 15 13 (.indexS (.t 14) (ki 0)),z 16 13 (bu .leq 15 57),o 17 (pt 13 16)] (c 17 (g [W 2 kf] r) k)) (q (g [m 18 0,o 19 (.toBytes (.t 18)),o 20 (le 19),V 21 0] (bl 0 (lo [19,20,21] (g [o 22 (b .lss 21 20)] (q (c 22 k (e 0)) (q (bl 1 (g [o 23 (ia 1 19 21),o 24 (ld 1 23),m 4 24] (g [m 25 4,o 26 (bu .or 25 32),o 27 (bu .lss 26 97),m 28 27,z 29 28 (mt 4),z 30 28 (bu .or 29 32),z 31 28 (bu .gtr 30 122),o 32 (pt 28 31),m 33 32,z 34 33 (mt 4),z 35 33 (bu .and 34 64),z 36 33 (bu .eql 35 0),o 37 (pt 33 36),m 38 37,y 39 38 (mt 4),y 40 38 (bu .lss 39 48),y 41 38 (mt 40),z 42 41 (mt 4),z 43 41 (bu .gtr 42 57),y 44 38 (pt 41 43),o 45 (pf 38 44)] (c 45 (g [W 2 kf] r) k)))) (p [o 46 (bi .add 21 1),m 21 46]))))))) (g [W 2 kt] r))))⟩
def z32:List (List Nat):=[[19,20,21]]
def Y1:AFunc:=⟨24,[.tmp 2],(g [W 2 kf] (q (g [m 5 0,o 6 (le 5),V 7 0] (bl 0 (lo [0,5,6,7] (g [o 8 (b .lss 7 6)] (q (c 8 k (e 0)) (q (bl 1 (g [m 9 7,o 10 (ia 2 5 7),o 11 (lg 2 10),o 4 (.alloc [.str [],iz]),m 3 9,s 2 4 (.t 11)] (g [o 12 (fa 0 4),o 13 (ld 1 12),o 14 (cg ul [13]),o 15 (.un .not (.t 14)),m 16 15,z 17 16 (mt 0),z 18 16 (mt 3),z 19 16 (.slice 2 (.t 17) none (some (.t 18)) none),z 20 16 (.mkfn (.func xW) [] [(.t 4)]),z 21 16 (cg zQ [19,20]),o 22 (pt 16 21)] (c 22 (g [W 2 kf] r) k)))) (p [o 23 (bi .add 7 1),m 7 23]))))))) (g [W 2 kt] r)))⟩
def z34:List (List Nat):=[[0,5,6,7]]
def Z4:AFunc:=⟨15,[.tmp 4],(g [V 4 0] (q (g [m 6 1,o 7 (cg tZ [6]),m 5 7] (g [m 8 5,o 9 (bi .neq 8 0)] (c 9 (g [m 10 5,m 4 10] r) k))) (q (g [m 11 0,m 12 1,o 13 (cg Y7 [11,12]),o 14 (.un .not (.t 13))] (c 14 (g [V 4 8] r) k)) (g [V 4 0] r))))⟩
def z1z:List (List Nat):=[]
def ZV:AFunc:=⟨7,[],(p [o 3 (ld 1 1),m 4 0,o 5 (li 1 [4]),o 6 (ap 1 1 3 5),s 1 1 (.t 6)])⟩
def z2W:List (List Nat):=[]
def uK:AFunc:=⟨11,[],(g [m 3 0,o 4 (le 3),m 2 4] (p [m 5 0,m 6 2,m 7 2,o 8 (.conv .u64 (.t 7)),o 9 (cg ka [8]),o 10 (cf zV [(.t 5),(ki 0),(.t 6),(.t 9)])]))⟩
def WU:List (List Nat):=[]
def yT:AFunc:=⟨61,[.tmp 2],(g [W 2 kn] (q (g [m 6 0,o 7 (le 6),o 8 (bi .lss 7 2)] (c 8 (g [m 9 0,m 2 9] r) k)) (q (g [V 3 1] (bl 0 (lo [0,3] (q (g [m 10 3,m 11 0,o 12 (le 11),o 13 (b .lss 10 12)] (c 13 k (e 0))) (q (bl 1 (q (.draw [m 16 0,m 17 3,o 18 (ia 1 16 17),o 19 (ld 1 18),m 20 0,m 21 3,o 22 (bi .sub 21 1),o 23 (ia 1 20 22),o 24 (ld 1 23),o 25 (b .eql 19 24)]) (c 25 (g [m 26 0,m 27 3,o 28 (.slice 1 (.t 26) (some (.t 27)) none none),m 4 28] (q (g [V 5 1] (bl 2 (lo [0,3,4,5] (q (g [m 29 5,m 30 4,o 31 (le 30),o 32 (b .lss 29 31)] (c 32 k (e 2))) (q (bl 3 (q (.draw [m 35 4,m 36 5,o 37 (ia 1 35 36),o 38 (ld 1 37),m 39 4,m 40 5,o 41 (bi .sub 40 1),o 42 (ia 1 39 41),o 43 (ld 1 42),o 44 (b .neq 38 43)]) (c 44 (g [m 45 0,m 46 3,m 47 4,m 48 5,o 49 (ia 1 47 48),o 50 (ld 1 49),o 51 (ia 1 45 46),s 1 51 (.t 50)] (p [m 52 3,o 53 (bi .add 52 1),m 3 53])) k))) (p [m 33 5,o 34 (bi .add 33 1),m 5 34])))))) (g [m 54 0,m 55 3,o 56 (.slice 1 (.t 54) (some (.t 55)) none none),⟨none,.ext (.clr [iz] (.t 56)),none,false⟩] (g [m 57 0,m 58 3,o 59 (.slice 1 (.t 57) none (some (.t 58)) none),m 2 59] r)))) k))) (p [m 14 3,o 15 (bi .add 14 1),m 3 15])))))) (g [m 60 0,m 2 60] r))))⟩
def ZO:List (List Nat):=[[0,3],[0,3,4,5]]
def Z9:AFunc:=⟨12,[.tmp 4],(g [W 4 kf] (g [m 5 0,o 6 (bi .geq 5 0),m 7 6,y 8 7 (mt 0),y 9 7 (mt 1),y 10 7 (b .lss 8 9),o 11 (pf 7 10),m 4 11] r))⟩
def z1F:List (List Nat):=[]
def XM:AFunc:=⟨6,[.tmp 2],(g [W 2 kf] (g [m 3 0,o 4 (cf zN [(.t 3),(.c (.fn (.func vM) [] []))]),o 5 (.un .not (.t 4)),m 2 5] r))⟩
def z4M:List (List Nat):=[]
def js:AFunc:=⟨77,[.tmp 2],(g [W 2 kn] (g [m 7 0,o 8 (le 7),o 9 (.make 2 16 [iz,iz] (.t 8) (.t 8)),m 3 9] (q (g [m 10 0,o 11 (le 10),V 12 0] (bl 0 (lo [3,10,11,12] (g [o 13 (b .lss 12 11)] (q (c 13 k (e 0)) (q (bl 1 (g [m 14 12,o 15 (ia 4 10 12),o 16 (lg 4 15),o 5 (.alloc [.int .u8 (0),iz,iz,.nils]),m 4 14,s 4 5 (.t 16)] (g [o 17 (fa 0 5),o 18 (ld 1 17)] (bl 2 (g [o 20 (bu .eql 18 1),m 19 20] (c 19 (p [m 21 3,m 22 4,o 23 (.build [iz,iz] [(0,1,(ki 1)),(1,1,(ki 1))]),o 24 (ia 2 21 22),s 2 24 (.t 23)]) (q (g [o 26 (bu .eql 18 2),m 25 26] (c 25 k (p [o 27 (bu .eql 18 4),m 25 27]))) (c 25 (p [m 28 3,m 29 4,o 30 (.build [iz,iz] [(0,1,(ki 8)),(1,1,(ki 8))]),o 31 (ia 2 28 29),s 2 31 (.t 30)]) (g [o 33 (bu .eql 18 3),m 32 33] (c 32 (p [m 34 3,m 35 4,o 36 (.build [iz,iz] [(0,1,(ki 16)),(1,1,(ki 8))]),o 37 (ia 2 34 35),s 2 37 (.t 36)]) (g [o 39 (bu .eql 18 7),m 38 39] (c 38 (p [m 40 3,m 41 4,o 42 (.build [iz,iz] [(0,1,(ki 24)),(1,1,(ki 8))]),o 43 (ia 2 40 41),s 2 43 (.t 42)]) (g [o 45 (bu .eql 18 6),m 44 45] (c 44 (g [m 46 3,o 47 (fa 1 5),o 48 (ld 1 47),o 49 (ia 2 46 48),o 50 (lg 2 49),o 6 (.alloc [iz,iz]),s 2 6 (.t 50)] (p [m 51 3,m 52 4,o 53 (fa 2 5),o 54 (ld 1 53),o 55 (fa 0 6),o 56 (ld 1 55),o 57 (b .mul 54 56),o 58 (.mn (ki 1048576) (.t 57)),o 59 (fa 1 6),o 60 (ld 1 59),o 61 (.build [iz,iz] [(0,1,(.t 58)),(1,1,(.t 60))]),o 62 (ia 2 51 52),s 2 62 (.t 61)])) (g [o 64 (bu .eql 18 5),m 63 64] (c 63 (p [m 66 3,m 67 4,m 68 3,o 69 (fa 3 5),o 70 (ld 1 69),o 71 (cg ky [68,70]),m 65 71,o 72 (ex 65 0),o 73 (ex 65 1),o 74 (ia 2 66 67),s 2 74 (.t 73)]) k)))))))))))))))) (p [o 75 (bi .add 12 1),m 12 75]))))))) (g [m 76 3,m 2 76] r))))⟩
def QH:List (List Nat):=[[3,10,11,12]]
def zP:AFunc:=⟨9,[.tmp 4],(g [W 4 kf] (g [m 5 0,m 6 1,o 7 (cg zY [5,6]),o 8 (bi .geq 7 0),m 4 8] r))⟩
def uj:List (List Nat):=[]
def jW:AFunc:=⟨9,[.tmp 3],(g [o 2 (bx 2 0),W 3 kf] (g [o 4 (fa 0 2),o 5 (ld 1 4),o 6 (fa 0 1),o 7 (ld 1 6),o 8 (b .eql 5 7),m 3 8] r))⟩
def z0z:List (List Nat):=[]
def ZX:AFunc:=⟨55,[.tmp 4],(g [W 4 kf] (q (g [m 8 0,o 9 (le 8),o 10 (bi .eql 9 0),m 11 10,z 12 11 (mt 0),z 13 11 (.iaddr 2 (.t 12) (ki 0)),z 14 11 (fa 0 13),z 15 11 (ld 1 14),z 16 11 (bi .neq 15 0),o 17 (pt 11 16),m 18 17,z 19 18 (mt 0),z 20 18 (mt 0),z 21 18 (le 20),z 22 18 (bi .sub 21 1),z 23 18 (ia 2 19 22),z 24 18 (fa 0 23),z 25 18 (ld 1 24),z 26 18 (mt 1),z 27 18 (b .geq 25 26),o 28 (pt 18 27)] (c 28 (g [W 4 kf] r) k)) (g [m 29 0,o 30 (.iaddr 2 (.t 29) (ki 0)),o 31 (lg 2 30),o 5 (.alloc [iz,.int .u64 (0)]),s 2 5 (.t 31)] (q (g [m 32 0,o 33 (.slice 2 (.t 32) (some (ki 1)) none none),o 34 (le 33),V 35 0] (bl 0 (lo [5,33,34,35] (g [o 36 (b .lss 35 34)] (q (c 36 k (e 0)) (q (bl 1 (g [o 37 (ia 2 33 35),o 38 (lg 2 37),o 7 (.alloc [iz,.int .u64 (0)]),s 2 7 (.t 38)] (q (g [o 39 (fa 0 7),o 40 (ld 1 39),o 41 (fa 0 5),o 42 (ld 1 41),o 43 (b .leq 40 42),m 44 43,z 45 44 (lg 2 7),z 46 44 (fa 0 7),z 47 44 (ld 1 46),z 48 44 (fa 1 5),z 49 44 (ld 1 48),z 50 44 (.build [iz,.int .u64 (0)] [(0,1,(.t 47)),(1,1,(.t 49))]),z 51 44 (.ext (.eqA false 2 [(0,1),(1,1)] (.t 45) (.t 50))),o 52 (pt 44 51)] (c 52 (g [W 4 kf] r) k)) (p [o 53 (lg 2 7),s 2 5 (.t 53)])))) (p [o 54 (bi .add 35 1),m 35 54]))))))) (g [W 4 kt] r)))))⟩
def z2Y:List (List Nat):=[[5,33,34,35]]
def xg:AFunc:=⟨134,[],(g [W 8 kt] (g [W 9 kt] (bl 0 (lo [0,1,2,3,8,9] (bl 1 (g [m 19 2,m 20 1,o 21 (b .sub 19 20),m 10 21] (q (g [m 22 10,o 23 (bi .leq 22 12)] (c 23 (g [m 24 0,m 25 1,m 26 2,o 27 (cg yy [24,25,26])] r) k)) (q (g [m 28 3,o 29 (bi .eql 28 0)] (c 29 (g [m 30 0,m 31 1,m 32 2,o 33 (cg jZ [30,31,32])] r) k)) (q (g [m 34 8,o 35 (.un .not (.t 34))] (c 35 (g [m 36 0,m 37 1,m 38 2,o 39 (cg qN [36,37,38])] (p [m 40 3,o 41 (bi .sub 40 1),m 3 41])) k)) (g [m 43 0,m 44 1,m 45 2,o 46 (cg jd [43,44,45]),m 42 46,o 47 (ex 42 0),o 48 (ex 42 1),m 11 47,m 12 48] (q (g [m 49 12,o 50 (bi .eql 49 2)] (c 50 (g [m 51 0,m 52 1,m 53 2,o 54 (cg j6 [51,52,53])] (g [m 55 2,o 56 (bi .sub 55 1),m 57 11,m 58 1,o 59 (b .sub 57 58),o 60 (b .sub 56 59),m 11 60] (p [V 12 1]))) k)) (q (g [m 61 8,m 62 61,y 63 62 (mt 9),o 64 (pf 62 63),m 65 64,y 66 65 (mt 12),y 67 65 (bi .eql 66 1),o 68 (pf 65 67)] (c 68 (g [m 69 0,m 70 1,m 71 2,o 72 (cg uZ [69,70,71])] (c 72 r k)) k)) (q (q (.draw [m 73 1,o 74 (bi .gtr 73 0),m 75 74,y 76 75 (mt 0),y 77 75 (mt 1),y 78 75 (bi .sub 77 1),y 79 75 (ia 1 76 78),y 80 75 (ld 1 79),y 81 75 (mt 0),y 82 75 (mt 11),y 83 75 (ia 1 81 82),y 84 75 (ld 1 83),y 85 75 (cg jb [80,84]),y 86 75 (.un .not (.t 85)),o 87 (pf 75 86)]) (c 87 (g [m 88 0,m 89 1,m 90 2,m 91 11,o 92 (cg qC [88,89,90,91]),m 13 92] (g [m 93 13,m 1 93] (e 1))) k)) (g [m 95 0,m 96 1,m 97 2,m 98 11,o 99 (cg jQ [95,96,97,98]),m 94 99,o 100 (ex 94 0),o 101 (ex 94 1),m 14 100,m 15 101] (g [m 102 15,m 9 102] (g [m 103 14,m 104 1,o 105 (b .sub 103 104),m 106 2,m 107 14,o 108 (b .sub 106 107),m 16 105,m 17 108] (g [m 109 10,o 110 (bi .quo 109 8),m 18 110] (g [m 111 16,m 112 17,o 113 (b .lss 111 112)] (c 113 (g [m 114 16,m 115 18,o 116 (b .geq 114 115),m 8 116] (g [m 117 0,m 118 1,m 119 14,m 120 3,o 121 (cg zV [117,118,119,120])] (p [m 122 14,o 123 (bi .add 122 1),m 1 123]))) (g [m 124 17,m 125 18,o 126 (b .geq 124 125),m 8 126] (g [m 127 0,m 128 14,o 129 (bi .add 128 1),m 130 2,m 131 3,o 132 (cg zV [127,129,130,131])] (p [m 133 14,m 2 133]))))))))))))))))))))))⟩
def km:List (List Nat):=[[0,1,2,3,8,9]]
def jV:AFunc:=⟨8,[.tmp 2],(g [V 2 0] (q (.cond kf (g [m 3 0,o 4 (.conv .u32 (.t 3)),o 5 (cg Qm [4]),m 2 5] r) k) (g [m 6 0,o 7 (cg j7 [6]),m 2 7] r)))⟩
def z0y:List (List Nat):=[]
def Z7:AFunc:=⟨5,[.tmp 2],(g [W 2 kf] (g [m 3 0,o 4 (bi .neq 3 0),m 2 4] r))⟩
def z1D:List (List Nat):=[]
def XK:AFunc:=⟨68,[.tmp 4,.cell 5 true 2],(g [W 4 kn,o 5 (.alloc [iz,iz])] (g [m 11 1,o 12 (le 11),o 13 (.make 1 8 [iz] (.t 12) (.t 12)),o 14 (.build [iz,iz] [(0,1,(ki 0)),(1,1,(ki 1))]),o 7 (.alloc [iz,iz]),m 6 13,s 2 7 (.t 14)] (q (g [m 15 1,o 16 (le 15),V 17 0] (bl 0 (lo [0,5,6,7,15,16,17] (g [o 18 (b .lss 17 16)] (q (c 18 k (e 0)) (q (bl 1 (g [m 19 17,o 20 (ia 2 15 17),o 21 (lg 2 20),o 9 (.alloc [.str [],iz]),m 8 19,s 2 9 (.t 21)] (g [m 22 0,o 23 (fa 1 9),o 24 (ld 1 23),o 25 (ia 2 22 24),o 26 (lg 2 25),o 10 (.alloc [iz,iz]),s 2 10 (.t 26)] (g [m 27 6,m 28 8,o 29 (fa 0 7),o 30 (ld 1 29),o 31 (fa 1 10),o 32 (ld 1 31),o 33 (b .add 30 32),o 34 (bi .sub 33 1),o 35 (fa 1 10),o 36 (ld 1 35),o 37 (bi .sub 36 1),o 38 (b .andNot 34 37),o 39 (ia 1 27 28),s 1 39 (.t 38)] (.draw [m 40 6,m 41 8,o 42 (ia 1 40 41),o 43 (ld 1 42),o 44 (fa 0 10),o 45 (ld 1 44),o 46 (b .add 43 45),o 47 (.mn (ki 1048576) (.t 46)),o 48 (fa 1 7),o 49 (ld 1 48),o 50 (fa 1 10),o 51 (ld 1 50),o 52 (.mx (.t 49) (.t 51)),o 53 (.build [iz,iz] [(0,1,(.t 47)),(1,1,(.t 52))]),s 2 7 (.t 53)]))))) (p [o 54 (bi .add 17 1),m 17 54]))))))) (g [o 55 (fa 0 7),o 56 (ld 1 55),o 57 (fa 1 7),o 58 (ld 1 57),o 59 (b .add 56 58),o 60 (bi .sub 59 1),o 61 (fa 1 7),o 62 (ld 1 61),o 63 (bi .sub 62 1),o 64 (b .andNot 60 63),o 65 (fa 0 7),s 1 65 (.t 64)] (q (.draw [m 66 6,o 67 (lg 2 7),m 4 66,s 2 5 (.t 67)]) r)))))⟩
def z4L:List (List Nat):=[[0,5,6,7,15,16,17]]
def zX:AFunc:=⟨19,[.tmp 4],(g [V 4 0] (q (g [m 6 0,o 7 (le 6),V 8 0] (bl 0 (lo [0,1,7,8] (g [o 9 (b .lss 8 7)] (q (c 9 k (e 0)) (q (bl 1 (g [m 10 8,m 5 10] (g [m 11 1,m 12 0,m 13 5,o 14 (ia 2 12 13),o 15 (lg 2 14),o 16 (.call (.t 11) [(.t 15)])] (c 16 (g [m 17 5,m 4 17] r) k)))) (p [o 18 (bi .add 8 1),m 8 18]))))))) (g [V 4 (-1)] r)))⟩
def tm:List (List Nat):=[[0,1,7,8]]
def yx:AFunc:=⟨49,[],(g [m 8 1,o 9 (bi .add 8 1),m 6 9] (bl 0 (lo [0,1,2,6] (q (g [m 10 6,m 11 2,o 12 (b .lss 10 11)] (c 12 k (e 0))) (q (bl 1 (g [m 15 6,m 7 15] (bl 2 (lo [0,1,2,6,7] (q (q (.draw [m 16 7,m 17 1,o 18 (b .gtr 16 17),m 19 18,y 20 19 (mt 0),y 21 19 (mt 7),y 22 19 (ia 1 20 21),y 23 19 (ld 1 22),y 24 19 (mt 0),y 25 19 (mt 7),y 26 19 (bi .sub 25 1),y 27 19 (ia 1 24 26),y 28 19 (ld 1 27),y 29 19 (cg jb [23,28]),o 30 (pf 19 29)]) (c 30 k (e 2))) (q (bl 3 (.draw [m 33 0,m 34 7,m 35 0,m 36 7,o 37 (bi .sub 36 1),m 38 0,m 39 7,o 40 (bi .sub 39 1),o 41 (ia 1 38 40),o 42 (ld 1 41),m 43 0,m 44 7,o 45 (ia 1 43 44),o 46 (ld 1 45),o 47 (ia 1 33 34),s 1 47 (.t 42),o 48 (ia 1 35 37),s 1 48 (.t 46)])) (p [m 31 7,o 32 (bi .sub 31 1),m 7 32]))))))) (p [m 13 6,o 14 (bi .add 13 1),m 6 14]))))))⟩
def qM:List (List Nat):=[[0,1,2,6],[0,1,2,6,7]]
def Zb:AFunc:=⟨17,[.tmp 4],(g [W 4 kf] (g [m 5 0,o 6 (cg qw [5]),m 7 6,y 8 7 (mt 1),y 9 7 (cg qw [8]),y 10 7 (.un .not (.t 9)),o 11 (pf 7 10),m 12 11,z 13 12 (mt 0),z 14 12 (mt 1),z 15 12 (b .lss 13 14),o 16 (pt 12 15),m 4 16] r))⟩
def z1J:List (List Nat):=[]
def Qk:AFunc:=⟨19,[.tmp 2],(g [V 2 0] (q (g [m 3 0,o 4 (.bin .geq (.t 3) (.c (.int .u32 (65536))))] (c 4 (g [m 5 0,o 6 (.bin .shr (.t 5) (.c (.int .u64 (16)))),m 0 6] (p [V 2 16])) k)) (q (g [m 7 0,o 8 (.bin .geq (.t 7) (.c (.int .u32 (256))))] (c 8 (g [m 9 0,o 10 (.bin .shr (.t 9) (.c (.int .u64 (8)))),m 0 10] (p [m 11 2,o 12 (bi .add 11 8),m 2 12])) k)) (g [m 13 2,m 14 0,o 15 (.conv .u8 (.t 14)),o 16 (.indexS (.c (.str [0,1,2,2,3,3,3,3,4,4,4,4,4,4,4,4,5,5,5,5,5,5,5,5,5,5,5,5,5,5,5,5,6,6,6,6,6,6,6,6,6,6,6,6,6,6,6,6,6,6,6,6,6,6,6,6,6,6,6,6,6,6,6,6,7,7,7,7,7,7,7,7,7,7,7,7,7,7,7,7,7,7,7,7,7,7,7,7,7,7,7,7,7,7,7,7,7,7,7,7,7,7,7,7,7,7,7,7,7,7,7,7,7,7,7,7,7,7,7,7,7,7,7,7,7,7,7,7,8,8,8,8,8,8,8,8,8,8,8,8,8,8,8,8,8,8,8,8,8,8,8,8,8,8,8,8,8,8,8,8,8,8,8,8,8,8,8,8,8,8,8,8,8,8,8,8,8,8,8,8,8,8,8,8,8,8,8,8,8,8,8,8,8,8,8,8,8,8,8,8,8,8,8,8,8,8,8,8,8,8,8,8,8,8,8,8,8,8,8,8,8,8,8,8,8,8,8,8,8,8,8,8,8,8,8,8,8,8,8,8,8,8,8,8,8,8,8,8,8,8,8,8,8,8,8,8])) (.t 15)),o 17 (.conv .i64 (.t 16)),o 18 (b .add 13 17),m 2 18] r))))⟩
def TV:List (List Nat):=[]
def qZ:AFunc:=⟨25,[.tmp 2],(g [V 2 0] (q (g [m 3 0,o 4 (.bin .geq (.t 3) (.c (.int .u64 (4294967296))))] (c 4 (g [m 5 0,o 6 (.bin .shr (.t 5) (.c (.int .u64 (32)))),m 0 6] (p [V 2 32])) k)) (q (g [m 7 0,o 8 (.bin .geq (.t 7) (.c (.int .u64 (65536))))] (c 8 (g [m 9 0,o 10 (.bin .shr (.t 9) (.c (.int .u64 (16)))),m 0 10] (p [m 11 2,o 12 (bi .add 11 16),m 2 12])) k)) (q (g [m 13 0,o 14 (.bin .geq (.t 13) (.c (.int .u64 (256))))] (c 14 (g [m 15 0,o 16 (.bin .shr (.t 15) (.c (.int .u64 (8)))),m 0 16] (p [m 17 2,o 18 (bi .add 17 8),m 2 18])) k)) (g [m 19 2,m 20 0,o 21 (.conv .u8 (.t 20)),o 22 (.indexS (.c (.str [0,1,2,2,3,3,3,3,4,4,4,4,4,4,4,4,5,5,5,5,5,5,5,5,5,5,5,5,5,5,5,5,6,6,6,6,6,6,6,6,6,6,6,6,6,6,6,6,6,6,6,6,6,6,6,6,6,6,6,6,6,6,6,6,7,7,7,7,7,7,7,7,7,7,7,7,7,7,7,7,7,7,7,7,7,7,7,7,7,7,7,7,7,7,7,7,7,7,7,7,7,7,7,7,7,7,7,7,7,7,7,7,7,7,7,7,7,7,7,7,7,7,7,7,7,7,7,7,8,8,8,8,8,8,8,8,8,8,8,8,8,8,8,8,8,8,8,8,8,8,8,8,8,8,8,8,8,8,8,8,8,8,8,8,8,8,8,8,8,8,8,8,8,8,8,8,8,8,8,8,8,8,8,8,8,8,8,8,8,8,8,8,8,8,8,8,8,8,8,8,8,8,8,8,8,8,8,8,8,8,8,8,8,8,8,8,8,8,8,8,8,8,8,8,8,8,8,8,8,8,8,8,8,8,8,8,8,8,8,8,8,8,8,8,8,8,8,8,8,8,8,8,8,8,8,8])) (.t 21)),o 23 (.conv .i64 (.t 22)),o 24 (b .add 19 23),m 2 24] r)))))⟩
def TU:List (List Nat):=[]
def jX:AFunc:=⟨6,[.tmp 2],(g [W 2 kf] (g [m 3 0,m 4 0,o 5 (b .neq 3 4),m 2 5] r))⟩
def z0A:List (List Nat):=[]
def xd:AFunc:=⟨53,[.cell 2 true 3],(g [o 1 (bx 3 0),o 2 (.alloc [.nils,.nils,.nils])] (q (.draw [o 3 (.alloc [.nils,.nils,.nils]),o 6 (fa 0 1),o 7 (ld 1 6),o 8 (cg vb [7]),o 9 (li 1 []),o 10 (fa 1 1),w 11 (ld 1 10),o 12 (ap 1 16 9 11),o 13 (.build [.nils,.nils,.nils] [(0,1,(.t 8)),(1,1,(.t 12))]),s 3 3 (.t 13)]) (q (g [V 4 0] (bl 0 (lo [1,2,3,4,999999] (q (g [m 14 4,o 15 (fa 2 1),o 16 (ld 1 15),o 17 (le 16),o 18 (b .lss 14 17)] (c 18 k (e 0))) (q (bl 1 (g [o 21 (fa 2 1),o 22 (ld 1 21),m 23 4,o 24 (ia 7 22 23),o 25 (lg 7 24),o 5 (.alloc [.str [],iz,iz,.nils,.nils,.nils,.nils]),s 7 5 (.t 25)] (g [o 26 (li 2 []),o 27 (fa 3 5),o 28 (ld 1 27),o 29 (ap 2 24 26 28),o 30 (fa 3 5),s 1 30 (.t 29)] (g [o 31 (li 4 []),o 32 (fa 4 5),o 33 (ld 1 32),o 34 (.ext (.appB 4 32 (.t 31) (.t 33))),o 35 (fa 4 5),s 1 35 (.t 34)] (g [o 36 (li 2 []),o 37 (fa 5 5),o 38 (ld 1 37),o 39 (ap 2 16 36 38),o 40 (fa 5 5),s 1 40 (.t 39)] (g [o 41 (li 2 []),o 42 (fa 6 5),o 43 (ld 1 42),o 44 (ap 2 16 41 43),o 45 (fa 6 5),s 1 45 (.t 44)] (p [o 46 (fa 2 3),o 47 (ld 1 46),o 48 (lg 7 5),o 49 (li 7 [48]),o 50 (.ext (.appB 7 128 (.t 47) (.t 49))),o 51 (fa 2 3),s 1 51 (.t 50)]))))))) (p [m 19 4,o 20 (bi .add 19 1),m 4 20])))))) (g [o 52 (lg 3 3),s 3 2 (.t 52)] r))))⟩
def Xb:List (List Nat):=[[1,2,3,4,999999],[777777,34,50]]
def tab0:Nat→Option AFunc|3=>some xS|9=>some qe|10=>some uy|11=>some V7|12=>some tz|13=>some qf|14=>some Y6|15=>some Y5|16=>some ux|17=>some xG|18=>some uB|19=>some uA|20=>some tw|22=>some vF|25=>some uw|26=>some yA|27=>some vk|28=>some u4|29=>some vE|31=>some vh|34=>some V6|36=>some V5|37=>some uu|40=>some uv|41=>some vY|42=>some vZ|43=>some tI|44=>some vH|45=>some u9|46=>some uD|47=>some uz|48=>some tH|49=>some Y2|50=>some kw|51=>some yP|52=>some uI|53=>some tA|54=>some uE|55=>some vX|58=>some uP|59=>some zZ|60=>some Ur|61=>some uO|62=>some uC|63=>some vi|64=>some uF|65=>some vG|66=>some tt|69=>some xy|70=>some tD|71=>some tB|73=>some ur|74=>some yh|75=>some yS|76=>some vW|77=>some u5|78=>some Za|79=>some j4|80=>some vo|81=>some XP|82=>some ZY|83=>some uJ|84=>some vg|85=>some tF|86=>some vl|87=>some Zc|88=>some uN|89=>some vn|90=>some yf|91=>some xA|92=>some qh|93=>some vm|94=>some vJ|95=>some uQ|96=>some ub|97=>some Us|98=>some Up|99=>some Z5|100=>some vj|101=>some qB|102=>some tu|103=>some tv|104=>some vV|105=>some qA|106=>some ut|107=>some qd|108=>some xb|109=>some vD|110=>some tE|111=>some xY|112=>some XO|113=>some tJ|114=>some uL|115=>some qg|116=>some vI|117=>some XQ|118=>some Y3|119=>some ju|120=>some yj|121=>some Uu|122=>some ua|123=>some uc|124=>some Ut|125=>some j5|126=>some jr|127=>some tG|128=>some xe|129=>some uH|130=>some u7|131=>some tC|132=>some yB|133=>some yY|134=>some vp|135=>some qo|136=>some Un|137=>some Uo|138=>some Uq|139=>some Tz|140=>some uq|141=>some Y0|142=>some jB|143=>some jt|144=>some uM|145=>some Um|146=>some ZW|147=>some XJ|148=>some jU|149=>some Y4|150=>some xH|151=>some Z6|152=>some uG|153=>some u6|154=>some xz|155=>some XN|156=>some Z8|157=>some j0|158=>some ZZ|159=>some Y1|160=>some Z4|161=>some ZV|162=>some uK|163=>some yT|164=>some Z9|165=>some XM|166=>some js|167=>some zP|168=>some jW|169=>some ZX|170=>some xg|171=>some jV|172=>some Z7|173=>some XK|174=>some zX|175=>some yx|181=>some Zb|184=>some Qk|185=>some qZ|191=>some jX|1000012=>some xd|_=>none
def tab (f:Nat):Option AFunc:=if f=11 then some (constFn true) else tab0 f
theorem Zf:tab qb=some xS:=rfl
theorem UN:tab vB=some qe:=rfl
theorem W8:tab xJ=some uy:=rfl
theorem Wl:tab zE=some (constFn true):=rfl
theorem Vr:tab tL=some tz:=rfl
theorem UO:tab yG=some qf:=rfl
theorem z2T:tab qt=some Y6:=rfl
theorem z2S:tab qs=some Y5:=rfl
theorem W7:tab xI=some ux:=rfl
theorem W9:tab xK=some xG:=rfl
theorem Wc:tab xN=some uB:=rfl
theorem Wb:tab xM=some uA:=rfl
theorem Vq:tab tK=some tw:=rfl
theorem Yf:tab yw=some vF:=rfl
theorem W6:tab yJ=some uw:=rfl
theorem YR:tab ue=some yA:=rfl
theorem ZA:tab yW=some vk:=rfl
theorem YW:tab yC=some u4:=rfl
theorem Ye:tab vK=some vE:=rfl
theorem Zx:tab vt=some vh:=rfl
theorem W4:tab uU=some uu:=rfl
theorem W5:tab uV=some uv:=rfl
theorem YT:tab zr=some vY:=rfl
theorem YU:tab xk=some vZ:=rfl
theorem VB:tab x4=some tI:=rfl
theorem Yh:tab zx=some vH:=rfl
theorem X0:tab xn=some u9:=rfl
theorem We:tab uW=some uD:=rfl
theorem Wa:tab xL=some uz:=rfl
theorem VA:tab vb=some tH:=rfl
theorem z2P:tab jE=some Y2:=rfl
theorem z4v:tab XU=some kw:=rfl
theorem jk:tab ya=some yP:=rfl
theorem Wj:tab uY=some uI:=rfl
theorem Vt:tab tM=some tA:=rfl
theorem Wf:tab xO=some uE:=rfl
theorem YS:tab xj=some vX:=rfl
theorem Wu:tab ta=some uP:=rfl
theorem xa:tab zO=some zZ:=rfl
theorem z5C:tab jS=some Ur:=rfl
theorem Wt:tab zq=some uO:=rfl
theorem Wd:tab yK=some uC:=rfl
theorem Zy:tab yo=some vi:=rfl
theorem Wg:tab yL=some uF:=rfl
theorem Yg:tab vL=some vG:=rfl
theorem Vn:tab zC=some tt:=rfl
theorem kP:tab xC=some xy:=rfl
theorem Vw:tab tN=some tD:=rfl
theorem Vu:tab v8=some tB:=rfl
theorem W2:tab uS=some ur:=rfl
theorem xE:tab zT=some yh:=rfl
theorem Zv:tab yU=some yS:=rfl
theorem YQ:tab ud=some vW:=rfl
theorem YX:tab uf=some u5:=rfl
theorem z1h:tab Ze=some Za:=rfl
theorem VE:tab j9=some j4:=rfl
theorem ZF:tab vx=some vo:=rfl
theorem z4t:tab XT=some XP:=rfl
theorem z2L:tab jD=some ZY:=rfl
theorem Wk:tab xQ=some uJ:=rfl
theorem Zw:tab vq=some vg:=rfl
theorem Vy:tab tO=some tF:=rfl
theorem ZC:tab yq=some vl:=rfl
theorem z1k:tab tU=some Zc:=rfl
theorem Wq:tab t6=some uN:=rfl
theorem ZE:tab vw=some vn:=rfl
theorem vO:tab zN=some yf:=rfl
theorem kR:tab zK=some xA:=rfl
theorem UQ:tab zu=some qh:=rfl
theorem ZD:tab vu=some vm:=rfl
theorem Yj:tab x9=some vJ:=rfl
theorem Wv:tab ym=some uQ:=rfl
theorem X2:tab uh=some ub:=rfl
theorem z5D:tab qK=some Us:=rfl
theorem z5A:tab jR=some Up:=rfl
theorem z1c:tab tR=some Z5:=rfl
theorem Zz:tab yV=some vj:=rfl
theorem Tg:tab xB=some qB:=rfl
theorem Vo:tab zy=some tu:=rfl
theorem Vp:tab xZ=some tv:=rfl
theorem YP:tab xh=some vV:=rfl
theorem Tf:tab yQ=some qA:=rfl
theorem W3:tab uT=some ut:=rfl
theorem UM:tab vA=some qd:=rfl
theorem kg:tab xi=some xb:=rfl
theorem Yd:tab x7=some vD:=rfl
theorem Vx:tab va=some tE:=rfl
theorem jI:tab yZ=some xY:=rfl
theorem z4s:tab kA=some XO:=rfl
theorem VD:tab vc=some tJ:=rfl
theorem Wo:tab zp=some uL:=rfl
theorem UP:tab yH=some qg:=rfl
theorem Yi:tab x8=some vI:=rfl
theorem z4u:tab vd=some XQ:=rfl
theorem z2Q:tab qr=some Y3:=rfl
theorem Qz:tab vN=some ju:=rfl
theorem Ws:tab t8=some yj:=rfl
theorem z5F:tab Uw=some Uu:=rfl
theorem X1:tab ug=some ua:=rfl
theorem X3:tab xo=some uc:=rfl
theorem z5E:tab Zr=some Ut:=rfl
theorem z1i:tab ja=some j5:=rfl
theorem Qw:tab tZ=some jr:=rfl
theorem Vz:tab tP=some tG:=rfl
theorem qU:tab xm=some xe:=rfl
theorem Wi:tab xP=some uH:=rfl
theorem YZ:tab yE=some u7:=rfl
theorem Vv:tab v9=some tC:=rfl
theorem tg:tab yF=some yB:=rfl
theorem jJ:tab x5=some yY:=rfl
theorem ZG:tab vy=some vp:=rfl
theorem ZB:tab zM=some qo:=rfl
theorem z5y:tab x6=some Un:=rfl
theorem z5z:tab Uv=some Uo:=rfl
theorem z5B:tab xp=some Uq:=rfl
theorem z7i:tab yu=some Tz:=rfl
theorem W1:tab uR=some uq:=rfl
theorem z2N:tab um=some Y0:=rfl
theorem T1:tab qq=some jB:=rfl
theorem Qy:tab jv=some jt:=rfl
theorem Wp:tab yN=some uM:=rfl
theorem z5x:tab vQ=some Um:=rfl
theorem z2J:tab jC=some ZW:=rfl
theorem z4o:tab XR=some XJ:=rfl
theorem z0s:tab jY=some jU:=rfl
theorem z2R:tab jF=some Y4:=rfl
theorem jg:tab yM=some xH:=rfl
theorem z1d:tab Zd=some Z6:=rfl
theorem Wh:tab uX=some uG:=rfl
theorem YY:tab yD=some u6:=rfl
theorem kQ:tab xD=some xz:=rfl
theorem z4r:tab XS=some XN:=rfl
theorem z1f:tab j8=some Z8:=rfl
theorem VC:tab tS=some j0:=rfl
theorem z2M:tab ul=some ZZ:=rfl
theorem z2O:tab Y8=some Y1:=rfl
theorem z1b:tab tQ=some Z4:=rfl
theorem z2I:tab qp=some ZV:=rfl
theorem Wn:tab xR=some uK:=rfl
theorem qj:tab zS=some yT:=rfl
theorem z1g:tab tT=some Z9:=rfl
theorem z4q:tab yr=some XM:=rfl
theorem Qx:tab qa=some js:=rfl
theorem ui:tab zQ=some zP:=rfl
theorem z0u:tab xW=some jW:=rfl
theorem z2K:tab Y7=some ZX:=rfl
theorem kh:tab zV=some xg:=rfl
theorem z0t:tab ka=some jV:=rfl
theorem z1e:tab vM=some Z7:=rfl
theorem z4p:tab ky=some XK:=rfl
theorem th:tab zY=some zX:=rfl
theorem qL:tab yy=some yx:=rfl
theorem z1j:tab jb=some Zb:=rfl
theorem TI:tab j7=some qZ:=rfl
theorem z0v:tab qw=some jX:=rfl
theorem YV:tab xl=some xd:=rfl
end Go.Proofs.W
end
section
namespace Go.Vs
open Go.RowKit
def tiles (P:Program):Nat→List Field→Nat→Bool
 |o,[],e=>o==e
 |o,f::r,e=>f.offset==o&&tiles P (o+P.cellsOf f.type) r e
def plainIn (P:Program) (S:List TypeId) (t:TypeId):Bool:=
 match P.underlying t with
 |some .bool|some (.int _)|some .string=>true
 |some (.slice e)=>S.contains e&&decide (0<P.cellsOf e)
 |some (.struct fs)=>(fs.toList.all fun f=>S.contains f.type)&&tiles P 0 fs.toList (P.cellsOf t)
 |some (.array n e)=>S.contains e&&(P.cellsOf t==n*P.cellsOf e)
 |_=>false
def plainAll (P:Program) (S:List TypeId):Bool:=S.all (plainIn P S)
def IsElem (P:Program) (e:TypeId) (y:AV):Prop:=if aggT P e=some true then∃cs,y= .agg cs else y.cells=[y]
def Typed (P:Program):Nat→TypeId→List AV→Prop
 |0,_,_=>False
 |n+1,t,xs=>
  match P.underlying t with
  |some .bool=> ∃b,xs=[.bool b]
  |some (.int k)=> ∃i,xs=[.int k i]∧(Lit.int k i).wf=true
  |some .string=> ∃l,xs=[.str l]∧l.length≤maxLen
  |some (.slice e)=>xs=[.nils]∨ ∃ys,xs=[.list (P.cellsOf e) .none ys]∧ys.length≤maxLen∧ ∀y∈ys,IsElem P e y∧Typed P n e y.cells
  |some (.struct fs)=>xs.length=P.cellsOf t∧ ∀f∈fs.toList,Typed P n f.type ((xs.drop f.offset).take (P.cellsOf f.type))
  |some (.array k e)=>xs.length=P.cellsOf t∧ ∀i,i<k→Typed P n e ((xs.drop (i*P.cellsOf e)).take (P.cellsOf e))
  |_=>False
section
variable {H : Type} {enc : TypeId × Value → H} {P : Program} {g : G} {w : World}
theorem z3i {n:Nat} {e:TypeId} {xs:List AV} (h:Typed P n e xs) (ha:aggT P e≠some true): ∃y,xs=[y]∧y.cells=[y]:=by
 cases n with
 |zero=>exact h.elim
 |succ n=>
  unfold Typed at h
  unfold aggT at ha
  split at h
  ·obtain⟨b,rfl⟩:=h;exact⟨_,rfl,rfl⟩
  ·obtain⟨i,rfl,_⟩:=h;exact⟨_,rfl,rfl⟩
  ·obtain⟨l,rfl,_⟩:=h;exact⟨_,rfl,rfl⟩
  ·rcases h with rfl|⟨ys,rfl,_⟩<;>exact⟨_,rfl,rfl⟩
  ·rename_i fs hu;rw[hu] at ha;exact absurd rfl ha
  ·rename_i k e hu;rw[hu] at ha;exact absurd rfl ha
  ·exact h.elim
theorem z19 {n:Nat} {T:TypeId→List Value→Prop} (ih: ∀t cs,T t cs→ ∃xs,Typed P n t xs∧Reps g w xs cs∧ ∀c∈cs,c.oneCell'=true):
  ∀(fs:List Field) (o e:Nat) (cs:List Value),tiles P o fs e=true→cs.length=e→(∀f∈fs,T f.type ((cs.drop f.offset).take (P.cellsOf f.type)))→
   ∃ys,Reps g w ys (cs.drop o)∧(∀c∈cs.drop o,c.oneCell'=true)∧o≤e∧ ∀(xs:List AV),xs.drop o=ys→(∀f∈fs,Typed P n f.type ((xs.drop f.offset).take (P.cellsOf f.type)))
 | [],o,e,cs,ht,hl,_=>by
  have:o=e:=by simpa [tiles] using ht
  subst this
  rw[←hl,List.drop_length]
  exact⟨[],Reps.nil g w,(fun c hc=>by cases hc),w0b _,(fun xs _ f hf=>by cases hf)⟩
 |f::r,o,e,cs,ht,hl,hT=>by
  simp only[tiles,w0e,beq_iff_eq] at ht
  obtain⟨ho,ht⟩:=ht
  obtain⟨zs,k1,k2,k3,k4⟩:=z19 ih r (o+P.cellsOf f.type) e cs ht hl (fun q hq=>hT q (w18 _ hq))
  obtain⟨xf,h1,h2,h3⟩:=ih _ _ (hT f w1c)
  rw[ho] at h2 h3
  have hsplit:cs.drop o=(cs.drop o).take (P.cellsOf f.type)++cs.drop (o+P.cellsOf f.type):=by
   rw[←List.drop_drop,List.take_append_drop]
  have hxl:xf.length=P.cellsOf f.type:=by
   rw[←h2.1,w1f,w5a,hl];omega
  refine⟨xf++zs,by rw[hsplit];exact h2.append k1,fun c hc=> ?_,by omega,fun xs hxs q hq=> ?_⟩
  ·rw[hsplit] at hc
   rcases w0a.1 hc with hc|hc
   ·exact h3 c hc
   ·exact k2 c hc
  ·rcases w32.1 hq with rfl|hq
   ·rw[ho,hxs,w56 (by omega),w2f (by omega)]
    exact h1
   ·refine k4 xs ?_ q hq
    rw[←List.drop_drop,hxs,List.drop_append_of_le_length (by omega),List.drop_of_length_le (by omega)]
    rfl
theorem z08 {n c:Nat} {e:TypeId} {T:List Value→Prop} (ih: ∀cs,T cs→ ∃xs,Typed P n e xs∧Reps g w xs cs∧ ∀c∈cs,c.oneCell'=true):
  ∀(k:Nat) (cs:List Value),cs.length=k*c→(∀i,i<k→T ((cs.drop (i*c)).take c))→
   ∃xs,Reps g w xs cs∧(∀c∈cs,c.oneCell'=true)∧ ∀i,i<k→Typed P n e ((xs.drop (i*c)).take c)
 |0,cs,hl,_=>by
  have:cs=[]:=w1b (by simpa using hl)
  subst this
  exact⟨[],Reps.nil g w,(fun c hc=>by cases hc),(fun i hi=>by omega)⟩
 |k+1,cs,hl,hT=>by
  have hlen:(cs.drop c).length=k*c:=by rw[w5a,hl,w42];omega
  obtain⟨zs,k1,k2,k3⟩:=z08 (c:=c) ih k (cs.drop c) hlen (fun i hi=>by
   have:=hT (i+1) (by omega)
   rw[List.drop_drop]
   rw[show c+i*c=(i+1)*c by rw[w42];omega]
   exact this)
  obtain⟨x0,h1,h2,h3⟩:=ih _ (hT 0 (by omega))
  simp only[Nat.zero_mul,w27] at h2 h3
  have hxl:x0.length=c:=by
   rw[←h2.1,w1f,hl,w42];omega
  refine⟨x0++zs,?_,fun v hv=> ?_,fun i hi=> ?_⟩
  ·have:=h2.append k1
   rwa [List.take_append_drop] at this
  ·rw[←List.take_append_drop c cs] at hv
   rcases w0a.1 hv with hv|hv
   ·exact h3 v hv
   ·exact k2 v hv
  ·cases i with
   |zero=>
    rw[Nat.zero_mul,w27,w56 (by omega),w2f (by omega)]
    exact h1
   |succ i=>
    have:=k3 i (by omega)
    have hd:(x0++zs).drop c=zs:=by rw[←hxl];simp
    rw[show(i+1)*c=c+i*c by rw[w42];omega,←List.drop_drop,hd]
    exact this
theorem TZ {α β:Type} {f:α→Option β}: ∀{l:List α} {r:List β},l.mapM f=some r→ ∀x∈l,∃y,f x=some y
 | [],_,_,x,hx=>by cases hx
 |a::l,r,h,x,hx=>by
  rw[List.mapM_cons] at h
  simp only[Option.bind_eq_bind,w05] at h
  obtain⟨y,h1,ys,h2,_⟩:=h
  rcases w32.1 hx with rfl|hx
  ·exact⟨y,h1⟩
  ·exact TZ h2 x hx
theorem z7h {S:List TypeId} (hS:plainAll P S=true) (hg: ∀b o,g.own b o=none) {base:Nat} {spare:Nat→Bool} {held:Bool}: ∀(n:Nat) (t:TypeId) (cs:List Value) (x:DataW H×List MemPlace),t∈S→DataW.trod enc P w base spare held n t cs=some x→
  ∃xs,Typed P n t xs∧Reps g w xs cs∧ ∀c∈cs,c.oneCell'=true:=by
 intro n
 induction n with
 |zero=>intro t cs x _ h;simp[DataW.trod] at h
 |succ n ih=>
  intro t cs x ht h
  have hp:plainIn P S t=true:=w4f.1 hS t ht
  unfold plainIn at hp
  have one: ∀(y:AV) (v:Value),Rep g w y v→v.oneCell'=true→Reps g w [y] [v]∧ ∀c∈[v],c.oneCell'=true:=
   fun y v hr hone=>⟨Reps.cons hr (Reps.nil g w),fun c hc=>by rw[w11.1 hc];exact hone⟩
  unfold DataW.trod at h
  split at h
  all_goals (try (rename_i hu;rw[hu] at hp;cases hp;done))
  ·rename_i b hu
   exact⟨[.bool b],by simp only[Typed,hu];exact⟨b,rfl⟩,one _ _ (.bool b) rfl⟩
  ·rename_i k k' i hu
   split at h
   ·rename_i hk
    obtain⟨rfl,hwf⟩:=hk
    exact⟨[.int k' i],by simp only[Typed,hu];exact⟨i,rfl,hwf⟩,one _ _ (.int k' i) rfl⟩
   ·cases h
  ·rename_i s hu
   split at h
   ·rename_i hs
    exact⟨[.str s.data.toList],by simp only[Typed,hu];exact⟨_,rfl,by simpa using hs⟩,one _ _ (.str _ s rfl) rfl⟩
   ·cases h
  ·rename_i e hu
   exact⟨[.nils],by simp[Typed,hu],one _ _ .nils rfl⟩
  ·rename_i e a len cap hu
   simp only at h
   rw[hu] at hp
   simp only[w0e,decide_eq_true_eq] at hp
   obtain⟨heS,hc0⟩:=hp
   have heS':e∈S:=by simpa using heS
   split at h
   ·rename_i hcond
    obtain⟨_,hle,hmax⟩:=hcond
    simp only[w05] at h
    obtain⟨elems,hel,_⟩:=h
    have hall:=TZ hel
    have each: ∀i,i<len→ ∃(cs:List Value) (xs:List AV),cs.length=P.cellsOf e∧(∀j,j<P.cellsOf e→w.cell? ((a.add (i*P.cellsOf e)).add j)=cs[j]?)∧Typed P n e xs∧Reps g w xs cs∧ ∀c∈cs,c.oneCell'=true:=by
     intro i hi
     obtain⟨y,hy⟩:=hall i (w47.2 hi)
     simp only[w05] at hy
     obtain⟨cs,h1,h2⟩:=hy
     obtain⟨_,h3,h4⟩:=World.cells?_some h1
     obtain⟨xs,k1,k2,k3⟩:=ih e cs y heS' h2
     exact⟨cs,xs,h3,h4,k1,k2,k3⟩
    by_cases hlen:len=0
    ·subst hlen
     exact⟨[.list (P.cellsOf e) .none []],by simp only[Typed,hu];exact .inr ⟨[],rfl,by simp,fun y hy=>by cases hy⟩,one _ _ (.empty _ _ _ _ (.inl rfl)) rfl⟩
    ·
     obtain⟨b,o,spot⟩:=a
     have hspot:spot=none:=by
      obtain⟨cs,xs,h1,h2,_⟩:=each 0 (by omega)
      have h3:=h2 0 hc0
      rw[w13 (by omega)] at h3
      have:=World.cell?_spot h3
      simpa [Addr.add] using this
     subst hspot
     have each': ∀i,∃(cs:List Value) (y:AV),i<len→cs.length=P.cellsOf e∧(∀j,j<P.cellsOf e→w.cell? ⟨b,o+(i*P.cellsOf e+j),none⟩=cs[j]?)∧IsElem P e y∧Typed P n e y.cells∧Reps g w y.cells cs∧ ∀c∈cs,c.oneCell'=true:=by
      intro i
      by_cases hi:i<len
      ·obtain⟨cs,xs,h1,h2,h3,h4,h5⟩:=each i hi
       have h2': ∀j,j<P.cellsOf e→w.cell? ⟨b,o+(i*P.cellsOf e+j),none⟩=cs[j]? :=fun j hj=>by
        have:=h2 j hj
        rw[Addr.add_mid,Addr.add_mid,Nat.add_assoc] at this
        exact this
       by_cases ha:aggT P e=some true
       ·exact⟨cs,.agg xs,fun _=>⟨h1,h2',by unfold IsElem;rw[if_pos ha];exact⟨xs,rfl⟩,h3,h4,h5⟩⟩
       ·obtain⟨y,rfl,hy⟩:=z3i h3 ha
        exact⟨cs,y,fun _=>⟨h1,h2',by unfold IsElem;rw[if_neg ha];exact hy,by rw[hy];exact h3,by rw[hy];exact h4,h5⟩⟩
      ·exact⟨[],.undef,fun h=>absurd h hi⟩
     have hf:=fun i=>(each' i).choose_spec
     let fc:Nat→List Value:=fun i=>(each' i).choose
     let fy:Nat→AV:=fun i=>(hf i).choose
     have key: ∀i,i<len→(fc i).length=P.cellsOf e∧(∀j,j<P.cellsOf e→w.cell? ⟨b,o+(i*P.cellsOf e+j),none⟩=(fc i)[j]?)∧IsElem P e (fy i)∧Typed P n e (fy i).cells∧Reps g w (fy i).cells (fc i)∧ ∀c∈fc i,c.oneCell'=true:=
      fun i hi=>(hf i).choose_spec hi
     let ys:=(List.range len).map fy
     have hys:ys.length=len:=by simp[ys]
     have hget: ∀(i:Nat) (y:AV),ys[i]? =some y→i<len∧y=fy i:=by
      intro i y hy
      have hi:i<len:=by rw[←hys];exact(w06.1 hy).1
      simp only[ys,w19,w48 hi,w0d,Option.some.injEq] at hy
      exact⟨hi,hy.symm⟩
     have hcell: ∀(i j:Nat) (y c:AV),ys[i]? =some y→y.cells[j]? =some c→ ∃v,(fc i)[j]? =some v∧w.cell? ⟨b,o+(i*P.cellsOf e+j),none⟩=some v∧Rep g w c v∧v.oneCell'=true:=by
      intro i j y c h1 h2
      obtain⟨hi,rfl⟩:=hget i y h1
      obtain⟨k1,k2,k3,k4,k5,k6⟩:=key i hi
      obtain⟨v,h3,h4⟩:=k5.get h2
      have hj:j<P.cellsOf e:=by rw[←k1];exact(w06.1 h3).1
      exact⟨v,h3,by rw[k2 j hj];exact h3,h4,k6 v (w49 h3)⟩
     have hrep:=Rep.list (g:=g) (w:=w) (P.cellsOf e) .none ys b o cap (fun i j=>((fc i)[j]?).getD Go.undef)
      (fun i y hy=>by obtain⟨hi,rfl⟩:=hget i y hy;obtain⟨k1,_,_,_,k5,_⟩:=key i hi;rw[←k5.1,k1]) (by rw[hys];exact hle) trivial
      (fun i j y c h1 h2=>by
       obtain⟨v,h3,h4,h5,h6⟩:=hcell i j y c h1 h2
       rw[h3]
       exact⟨h4,hg _ _,h6⟩)
      (fun i j y c h1 h2=>by
       obtain⟨v,h3,h4,h5,h6⟩:=hcell i j y c h1 h2
       rw[h3]
       exact h5)
     rw[hys] at hrep
     refine⟨[.list (P.cellsOf e) .none ys],?_,one _ _ hrep rfl⟩
     simp only[Typed,hu]
     refine .inr ⟨ys,rfl,by rw[hys];omega,fun y hy=> ?_⟩
     obtain⟨i,hi⟩:=List.getElem?_of_mem hy
     obtain⟨hil,rfl⟩:=hget i y hi
     obtain⟨_,_,k3,k4,_⟩:=key i hil
     exact⟨k3,k4⟩
   ·cases h
  ·rename_i fs hu
   rw[hu] at hp
   simp only[w0e] at hp
   obtain⟨hfs,htile⟩:=hp
   split at h
   ·rename_i hlen
    simp only[w02] at h
    obtain⟨ys,hm,_⟩:=h
    have hall:=TZ hm
    obtain⟨xs,k1,k2,_,k3⟩:=z19 (P:=P) (g:=g) (w:=w) (n:=n) (T:=fun t c=>t∈S∧ ∃y,DataW.trod enc P w base spare held n t c=some y)
     (fun t c ⟨ht,y,hy⟩=>ih t c y ht hy) fs.toList 0 (P.cellsOf t) _ htile hlen (fun f hf=>⟨by simpa using w4f.1 hfs f hf,hall f hf⟩)
    rw[w27] at k1 k2
    refine⟨xs,?_,k1,k2⟩
    simp only[Typed,hu]
    exact⟨by rw[←k1.1];exact hlen,k3 xs (w27 ..)⟩
   ·cases h
  ·rename_i k e hu
   rw[hu] at hp
   simp only[w0e,beq_iff_eq] at hp
   obtain⟨heS,hsz⟩:=hp
   have heS':e∈S:=by simpa using heS
   split at h
   ·rename_i hlen
    simp only[w02] at h
    obtain⟨ys,hm,_⟩:=h
    have hall:=TZ hm
    obtain⟨xs,k1,k2,k3⟩:=z08 (P:=P) (g:=g) (w:=w) (n:=n) (c:=P.cellsOf e) (e:=e) (T:=fun c=> ∃y,DataW.trod enc P w base spare held n e c=some y)
     (fun c ⟨y,hy⟩=>ih e c y heS' hy) k _ (by rw[hlen,hsz]) (fun i hi=>hall i (w47.2 hi))
    refine⟨xs,?_,k1,k2⟩
    simp only[Typed,hu]
    exact⟨by rw[←k1.1];exact hlen,k3⟩
   ·cases h
  ·cases h
end
end Go.Vs
end
section
namespace Go.Vs
open Go.RowKit Go.ChangeShapes Go.WideShapes
section
variable {H : Type} {enc : TypeId × Value → H} {P : Program} {g : G} {W : World}
theorem z7u {t:TypeId} {r:Reach} {base:Nat} {v:Value} (ha:aggT P t=some true) (h:Value.okWide P W r base t v): ∃cs,v= .agg cs:=by
 unfold aggT at ha
 unfold Value.okWide at h
 split at ha
 ·rename_i fs hu;rw[hu] at h;obtain⟨cs,h,_⟩:=h;exact⟨cs,h⟩
 ·rename_i n e hu;rw[hu] at h;obtain⟨cs,h,_⟩:=h;exact⟨cs,h⟩
 ·cases ha
 ·cases ha
theorem z2V {S:List TypeId} {t:TypeId} {r:Reach} {base:Nat} {v:Value} (hp:plainIn P S t=true) (ha:aggT P t≠some true) (h:Value.okWide P W r base t v):v.cells= #[v]:=by
 unfold plainIn at hp
 unfold aggT at ha
 split at hp
 ·rename_i hu;obtain⟨b,rfl⟩:=okWide_bool hu h;rfl
 ·rename_i hu;obtain⟨b,rfl⟩:=okWide_int hu h;rfl
 ·rename_i hu;obtain⟨b,rfl⟩:=okWide_string hu h;rfl
 ·rename_i hu;obtain⟨a,b,c,rfl⟩:=okWide_slice hu h;rfl
 ·rename_i hu;rw[hu] at ha;exact absurd rfl ha
 ·rename_i hu;rw[hu] at ha;exact absurd rfl ha
 ·cases hp
def ArgT (P:Program) (t:TypeId) (y:AV):Prop:=IsElem P t y∧ ∃n,Typed P n t y.cells
def ArgsT (P:Program):List TypeId→List AV→Prop
 | [],ys=>ys=[]
 |t::ts,ys=> ∃y r,ys=y::r∧ArgT P t y∧ArgsT P ts r
theorem zat {S:List TypeId} (hS:plainAll P S=true) (hg: ∀b o,g.own b o=none) {r:Reach} {b0 base:Nat} {spare:Nat→Bool} {held:Bool} {t:TypeId} {v:Value} {d:DataW H} {ps:List MemPlace} (ht:t∈S)
  (hok:Value.okWide P W r b0 t v) (h:DataW.Trod enc P W base spare held t v d ps): ∃y,ArgT P t y∧Rep g W y v:=by
 obtain⟨n,hn⟩:=h
 obtain⟨xs,h1,h2,_⟩:=z7h hS hg n t _ _ ht hn
 by_cases ha:aggT P t=some true
 ·obtain⟨cs,rfl⟩:=z7u ha hok
  refine⟨.agg xs,⟨by unfold IsElem;rw[if_pos ha];exact⟨xs,rfl⟩,n,h1⟩,?_⟩
  have:=h2.agg
  simpa [Value.cells] using this
 ·obtain⟨y,rfl,hy⟩:=z3i h1 ha
  rw[z2V (w4f.1 hS t ht) ha hok] at h2
  refine⟨y,⟨by unfold IsElem;rw[if_neg ha];exact hy,n,by rw[hy];exact h1⟩,?_⟩
  exact h2.2 0 _ _ rfl rfl
theorem z2n {S:List TypeId} (hS:plainAll P S=true) (hg: ∀b o,g.own b o=none) {r:Reach} {b0 base:Nat} {spare:Nat→Bool} {held:Bool}:
  ∀(ts:List TypeId) (vs:List Value) (ds:List (DataW H)) (ps:List MemPlace),(∀t∈ts,t∈S)→(∀(j:Nat) t v,ts[j]? =some t→vs[j]? =some v→Value.okWide P W r b0 t v)→DataW.TrodAll enc P W base spare held ts vs ds ps→
   (∃ys,ArgsT P ts ys∧Reps g W ys vs)∧ds.length=ts.length
 | [],vs,ds,ps,_,_,h=>by
  obtain⟨rfl,rfl,_⟩:=trodAll_nil h
  exact⟨⟨[],rfl,Reps.nil g W⟩,rfl⟩
 |t::ts,vs,ds,ps,hin,hok,h=>by
  match vs,ds,h with
  |v::vs,d::ds,h=>
   obtain⟨p,q,h1,h2,_⟩:=h
   obtain⟨y,k1,k2⟩:=zat hS hg (hin t w1c) (hok 0 t v rfl rfl) h1
   obtain⟨⟨ys,k3,k4⟩,k5⟩:=z2n hS hg ts vs ds q (fun u hu=>hin u (w18 _ hu)) (fun j u x hj hx=>hok (j+1) u x hj hx) h2
   exact⟨⟨y::ys,⟨y,ys,rfl,k1,k3⟩,Reps.cons k2 k4⟩,by simp[k5]⟩
def G.zero (b:Nat):G:=⟨fun _=>none,fun _=>none,fun _ _=>none,b,fun _=>false,fun _=>none⟩
def Mem.zero:Mem:=⟨[],[],0,[],0⟩
theorem z6w (W:World):Inv (G.zero W.heap.size) W Mem.zero where
 blk:=fun bl h _=>by simp[Mem.all,Mem.zero] at h
 nd:=by simp[Mem.all,Mem.zero]
 stlt:=fun st x h=>by cases h
 tklt:=fun t x h=>by cases h
 live:=fun t h=>by simp[Mem.zero] at h
 ownb:=fun b o x h=>by cases h
 hbase:=w0b _
 lnd:=List.nodup_nil
 rsv:=fun st h=>by cases h
 mpk:=fun st b h=>by cases h
theorem zbp {tab:Nat→Option AFunc} (hM:P.follows .mixedOrders=true) (hT:TabOk P tab) {f:Nat} {b:Bool} (h: ∃n m',callN tab n f [] Mem.zero=some (.bool b,m')):Known P (f%1000000) b:=by
 obtain⟨n,m',h⟩:=h
 obtain⟨h1,h2⟩:=z2i hM hT n f [] Mem.zero _ m' h (w0c _)
 refine⟨h1,fun w=>(h2 (G.zero w.heap.size) w [] (z6w w) (Reps.nil _ _)).mono fun e w' ⟨v,g',he,hx,_,hr⟩=> ?_⟩
 rw[he,hr.inv_bool]
 exact⟨rfl,hx.below⟩
def isTrue:Option (AV×Mem)→Bool
 |some (.bool true,_)=>true
 |_=>false
theorem z7J {tab:Nat→Option AFunc} (hM:P.follows .mixedOrders=true) (hT:TabOk P tab) {f:Nat} (n:Nat) (h:isTrue (callN tab n f [] Mem.zero)=true):Known P (f%1000000) true:=by
 refine zbp hM hT ⟨n,?_⟩
 revert h
 cases callN tab n f [] Mem.zero with
 |none=>intro h;cases h
 |some r=>
  obtain⟨v,m'⟩:=r
  intro h
  cases v with
  |bool b=>cases b with
   |true=>exact⟨m',rfl⟩
   |false=>cases h
  |_=>cases h
theorem z07 (hl:laidOutB P=true) {W':World} (hb:Below W.heap.size W W'): ∀(ts:List TypeId) (vs:List Value) (ds:List (DataW H)) (ps:List MemPlace),(∀t∈ts,P.readableRec t=true∧t<P.types.size)→(∀x∈ps,x.block<W.heap.size)→
  DataW.TrodAll enc P W 0 (fun _=>true) true ts vs ds ps→DataW.TrodAll enc P W' 0 (fun b=>decide (b<W.heap.size)) true ts vs ds ps
 | [],vs,ds,ps,_,_,h=>by
  obtain⟨rfl,rfl,rfl⟩:=trodAll_nil h
  rfl
 |t::ts,vs,ds,ps,hin,hlt,h=>by
  match vs,ds,h with
  |v::vs,d::ds,h=>
   obtain⟨p,q,h1,h2,rfl⟩:=h
   have ht:=hin t w1c
   exact⟨p,q,Below.trod hl ht.1 ht.2 h1 hb (fun x hx=>hlt x (w3c _ hx)),z07 hl hb ts vs ds q (fun u hu=>hin u (w18 _ hu)) (fun x hx=>hlt x (w46 _ hx)) h2,rfl⟩
theorem zbn {tab:Nat→Option AFunc} (hM:P.follows .mixedOrders=true) (hT:TabOk P tab) {S:List TypeId} (hS:plainAll P S=true) (hl:laidOutB P=true) {f:FuncId} {fn:Func} {s:ChangeSpec} {tb:TypeId} (hvars:s.vars=[])
  (hparams:(fn.params.toList.all fun t=>S.contains t&&P.readableRec t&&decide (t<P.types.size))=true) (hres:fn.resultTypes= #[tb]) (htb:P.underlying tb=some .bool)
  (hspec: ∀ds:List (DataW H),ds.length=fn.params.toList.length→s.fn H ds={results:=[.lit (.bool true)],args:=ds})
  (K: ∀ys,ArgsT P fn.params.toList ys→ ∃m',CALL tab f ys Mem.zero=some (.bool true,m'))
  {base:Nat} {args:Array Value} {ds gs:List (DataW H)} {before:List MemPlace} {fresh handsOn:Bool}
  (hval: ∀(j:Nat) t v,fn.params[j]? =some t→args[j]? =some v→Value.okWide P W .any base t v)
  (hW:DataW.Whole enc P fn.params.toList s.vars false W args.toList ds gs before) (hfV:f%1000000=f:=by rfl):
  Calls P f args W fun e W'=> ∃v,e= .returned v∧s.post enc P fn false fresh handsOn false W args v W':=by
 have hW':=hW
 obtain⟨p,q,hA,hV,rfl,_,_⟩:=hW
 rw[hvars] at hV
 obtain⟨rfl,rfl⟩:=trodVars_none hV
 simp only[w4f,w0e,decide_eq_true_eq] at hparams
 obtain⟨⟨ys,h1,h2⟩,h3⟩:=z2n (g:=G.zero W.heap.size) hS (fun _ _=>rfl) fn.params.toList args.toList ds p (fun t ht=>by simpa using (hparams t ht).1.1) (fun j t v hj hv=>hval j t v (by simpa using hj) (by simpa using hv)) hA
 obtain⟨m',hc⟩:=K ys h1
 obtain⟨_,hcall⟩:=zdW hM hT f ys Mem.zero _ m' hc (w0c _)
 rw[hfV] at hcall
 refine(hcall (G.zero W.heap.size) W args.toList (z6w W) h2).mono fun e W' ⟨v,g',he,hx,_,hr⟩=> ?_
 subst he
 have hb:Below W.heap.size W W':=hx.below
 rw[hr.inv_bool]
 have hsp:=hspec ds h3
 have hlt:=hW'.lt
 refine⟨_,rfl,ds,[],_,[],p,[],hW',?_,?_,?_,hb.frame _,fun h=>by cases h⟩
 ·rw[w1a,hsp,hres]
  exact trodAll_mk1 (shut_bool htb true)
 ·rw[w1a,hsp]
  exact z07 hl hb _ _ _ _ (fun t ht=>⟨(hparams t ht).1.2,(hparams t ht).2⟩) (fun x hx=>hlt x (w3c _ hx)) hA
 ·rw[w1a,hsp,hvars];rfl
end
end Go.Vs
end
section
namespace Go.Vs
def All2 {α:Type} (R:α→AV→Prop):List α→List AV→Prop
 | [],[]=>True
 |x::xs,y::ys=>R x y∧All2 R xs ys
 |_,_=>False
section
variable {α : Type} {R : α → AV → Prop}
theorem All2.len: ∀{xs:List α} {ys:List AV},All2 R xs ys→ys.length=xs.length
 | [],[],_=>rfl
 |x::xs,y::ys,h=>by simp[All2.len h.2]
 | [],_::_,h=>h.elim
 |_::_,[],h=>h.elim
theorem All2.get: ∀{xs:List α} {ys:List AV},All2 R xs ys→ ∀(i:Nat) (h:i<xs.length),ys[i]? =some (ys.getD i .undef)∧R xs[i] (ys.getD i .undef)
 | [],[],_,i,h=>by simp at h
 |x::xs,y::ys,h,0,_=>⟨rfl,h.1⟩
 |x::xs,y::ys,h,i+1,hi=>by
  have:=All2.get h.2 i (by simpa using hi)
  simpa using this
 | [],_::_,h,_,_=>h.elim
 |_::_,[],h,_,_=>h.elim
theorem All2.append: ∀{xs xs':List α} {ys ys':List AV},All2 R xs ys→All2 R xs' ys'→All2 R (xs++xs') (ys++ys')
 | [],_,[],_,_,k=>k
 |x::xs,_,y::ys,_,h,k=>⟨h.1,All2.append h.2 k⟩
 | [],_,_::_,_,h,_=>h.elim
 |_::_,_,[],_,h,_=>h.elim
theorem All2.take: ∀(n:Nat) {xs:List α} {ys:List AV},All2 R xs ys→All2 R (xs.take n) (ys.take n)
 |0,_,_,_=>by simp[All2]
 |n+1,[],[],_=>by simp[All2]
 |n+1,x::xs,y::ys,h=>⟨h.1,All2.take n h.2⟩
 |n+1,[],_::_,h=>h.elim
 |n+1,_::_,[],h=>h.elim
theorem All2.drop: ∀(n:Nat) {xs:List α} {ys:List AV},All2 R xs ys→All2 R (xs.drop n) (ys.drop n)
 |0,_,_,h=>h
 |n+1,[],[],_=>by simp[All2]
 |n+1,x::xs,y::ys,h=>All2.drop n h.2
 |n+1,[],_::_,h=>h.elim
 |n+1,_::_,[],h=>h.elim
theorem All2.mono {S:α→AV→Prop}: ∀{xs:List α} {ys:List AV},(∀x y,x∈xs→R x y→S x y)→All2 R xs ys→All2 S xs ys
 | [],[],_,_=>trivial
 |x::xs,y::ys,k,h=>⟨k x y w1c h.1,All2.mono (fun a b ha=>k a b (w18 _ ha)) h.2⟩
 | [],_::_,_,h=>h.elim
 |_::_,[],_,h=>h.elim
theorem All2.of_each: ∀(ys:List AV),(∀y∈ys,∃x,R x y)→ ∃xs:List α,All2 R xs ys
 | [],_=>⟨[],trivial⟩
 |y::ys,h=>by
  obtain⟨x,hx⟩:=h y w1c
  obtain⟨xs,hxs⟩:=All2.of_each ys fun z hz=>h z (w18 _ hz)
  exact⟨x::xs,hx,hxs⟩
def IsSl (R:α→AV→Prop) (s:Nat) (xs:List α) (y:AV):Prop:=
 xs.length≤9223372036854775807∧((xs=[]∧y= .nils)∨ ∃tk ys,y= .list s tk ys∧All2 R xs ys)
def nth (y:AV) (i:Nat):AV:=
 match y with
 | .list _ _ ys=>ys.getD i .undef
 |_=> .undef
theorem IsSl.nil (s:Nat):IsSl R s [] .nils:=⟨by simp,.inl ⟨rfl,rfl⟩⟩
theorem IsSl.mk {s:Nat} {tk:Tok} {xs:List α} {ys:List AV} (h:All2 R xs ys) (hl:xs.length≤9223372036854775807):IsSl R s xs (.list s tk ys):=⟨hl,.inr ⟨tk,ys,rfl,h⟩⟩
theorem IsSl.max {s:Nat} {xs:List α} {y:AV} (h:IsSl R s xs y):xs.length≤9223372036854775807:=h.1
theorem IsSl.len {s:Nat} {xs:List α} {y:AV} (h:IsSl R s xs y):evLen y=some (.int .i64 xs.length):=by
 rcases h with⟨_,⟨rfl,rfl⟩|⟨tk,ys,rfl,h⟩⟩
 ·rfl
 ·simp only[evLen,h.len]
theorem zw (k:IntKind) (i n:Nat) (h:i<n):idx (.int k i) n=some i:=by
 have h1:(0:Int)≤i∧(i:Int)<n:=by omega
 simp only[idx,h1]
 simp
theorem IsSl.at {s:Nat} {xs:List α} {y:AV} (h:IsSl R s xs y) {i:Nat} (k:IntKind) (hi:i<xs.length):evIaddr s y (.int k i)=some (.ro (nth y i).cells):=by
 rcases h with⟨_,⟨rfl,rfl⟩|⟨tk,ys,rfl,h⟩⟩
 ·simp at hi
 ·obtain⟨h1,_⟩:=h.get i hi
  have hl:=h.len
  simp only[evIaddr,beq_self_eq_true,if_true,zw k i ys.length (by omega),w26,h1,w0d,nth]
theorem IsSl.nth {s:Nat} {xs:List α} {y:AV} (h:IsSl R s xs y) {i:Nat} (hi:i<xs.length):R xs[i] (nth y i):=by
 rcases h with⟨_,⟨rfl,rfl⟩|⟨tk,ys,rfl,h⟩⟩
 ·simp at hi
 ·exact(h.get i hi).2
theorem IsSl.refs_cells {s:Nat} {xs:List α} {y:AV} (h:IsSl R s xs y):y.cells=[y]:=by
 rcases h with⟨_,⟨rfl,rfl⟩|⟨tk,ys,rfl,h⟩⟩<;>rfl
theorem IsSl.one {s:Nat} {xs:List α} {y:AV} (h:IsSl R s xs y):y.one=true:=by
 rcases h with⟨_,⟨rfl,rfl⟩|⟨tk,ys,rfl,h⟩⟩<;>rfl
theorem IsSl.mono {S:α→AV→Prop} {s:Nat} {xs:List α} {y:AV} (h:IsSl R s xs y) (k: ∀x y,x∈xs→R x y→S x y):IsSl S s xs y:=by
 rcases h with⟨hm,⟨rfl,rfl⟩|⟨tk,ys,rfl,h⟩⟩
 ·exact .nil s
 ·exact .mk (h.mono k) hm
theorem IsSl.elems_any {s:Nat} {xs:List α} {y:AV} (h:IsSl R s xs y): ∃ys,(∀m:Mem,m.elems s y=some ys)∧All2 R xs ys:=by
 rcases h with⟨_,⟨rfl,rfl⟩|⟨tk,ys,rfl,h⟩⟩
 ·exact⟨[],fun _=>rfl,trivial⟩
 ·exact⟨ys,fun m=>by simp[Mem.elems,elemsOf],h⟩
theorem IsSl.elems {s:Nat} {xs:List α} {y:AV} (h:IsSl R s xs y) (m:Mem): ∃ys,m.elems s y=some ys∧All2 R xs ys:=by
 rcases h with⟨_,⟨rfl,rfl⟩|⟨tk,ys,rfl,h⟩⟩
 ·exact⟨[],rfl,trivial⟩
 ·exact⟨ys,by simp[Mem.elems,elemsOf],h⟩
end
def IsK (k:IntKind) (n:Int) (y:AV):Prop:=y= .int k n
def IsStr (s:List UInt8) (y:AV):Prop:=y= .str s
def IsByte (b:UInt8) (y:AV):Prop:=y= .int .u8 b.toNat
abbrev IsBytes (l:List UInt8) (y:AV):Prop:=IsSl IsByte 1 l y
theorem Tb: ∀{l:List UInt8} {ys:List AV},All2 IsByte l ys→bytesOf ys=some l
 | [],[],_=>rfl
 |b::l,y::ys,h=>by
  obtain⟨h1,h2⟩:=h
  rw[h1]
  simp only[bytesOf,byteOf,Tb h2]
  simp
 | [],_::_,h=>h.elim
 |_::_,[],h=>h.elim
theorem IsBytes.toStr {l:List UInt8} {y:AV} (m:Mem) (h:IsBytes l y):evToStr m y=some (.str l):=by
 rcases h with⟨_,⟨rfl,rfl⟩|⟨tk,ys,rfl,h⟩⟩
 ·rfl
 ·simp only[evToStr,AV.asArr,evToStr0,Tb h,w0d]
theorem kr: ∀l:List UInt8,All2 IsByte l (ofBytes l)
 | []=>trivial
 |b::l=>⟨rfl,kr l⟩
def in64 (n:Int):Prop:= -9223372036854775808≤n∧n≤9223372036854775807
theorem zaF {n:Int} (h:in64 n):IntKind.i64.wrap n=n:=by
 unfold in64 at h
 unfold IntKind.wrap
 simp[IntKind.signed,IntKind.bits]
 omega
theorem zc {n:Int} (h1: -9223372036854775808≤n) (h2:n≤9223372036854775807):IntKind.i64.wrap n=n:=zaF ⟨h1,h2⟩
theorem zH {n:Int} (h1:0≤n) (h2:n<18446744073709551616):IntKind.u64.wrap n=n:=by
 unfold IntKind.wrap
 simp[IntKind.signed,IntKind.bits]
 omega
theorem z8w {n:Int} (h1:0≤n) (h2:n<256):IntKind.u8.wrap n=n:=by
 unfold IntKind.wrap
 simp[IntKind.signed,IntKind.bits]
 omega
theorem zd {i n:Nat} (h:i<n) (hn:n≤9223372036854775807):IntKind.i64.wrap ((i:Int)+1)=((i+1:Nat):Int):=by
 rw[zc (by omega) (by omega)];omega
def Ok (tab:Nat→Option AFunc) (f:Nat) (args:List AV) (m:Mem) (R:AV→Prop):Prop:= ∃r k,CALL tab f args m=some (r,m.bump k)∧R r
theorem z5W {tab:Nat→Option AFunc} {f:Nat} {fn:AFunc} (h:tab f=some fn) {args:List AV} {R:AV→Prop} {m:Mem} (hx:X tab fn.body (mk fn.ntmps (.tup []) (numb 0 args)) (enter m) (.fin fn.res m fun v m'=>(∃k,m'=m.bump k)∧R v)) (hn:args.length≤fn.ntmps:=by exact Nat.le_of_ble_eq_true rfl):
  Ok tab f args m R:=by
 obtain⟨x,h1,⟨k,h2⟩,h3⟩:=zW h hx hn;exact⟨x.1,k,by rw[h1,←h2],h3⟩
def Okv (tab:Nat→Option AFunc) (f:Nat) (args:List AV) (m:Mem) (r:AV):Prop:= ∃k,CALL tab f args m=some (r,m.bump k)
theorem zf {tab:Nat→Option AFunc} {f:Nat} {fn:AFunc} (h:tab f=some fn) {args:List AV} {r:AV} {m:Mem} (hx:X tab fn.body (mk fn.ntmps (.tup []) (numb 0 args)) (enter m) (.fin fn.res m fun v m'=>(∃k,m'=m.bump k)∧v=r)) (hn:args.length≤fn.ntmps:=by exact Nat.le_of_ble_eq_true rfl):
  Okv tab f args m r:=by
 obtain⟨x,h1,⟨k,h2⟩,h3⟩:=zW h hx hn;exact⟨k,by rw[h1,←h2,←h3]⟩
section
variable {α : Type}
theorem tV {xs ys:List α} {i:Nat} (hl:xs.length=ys.length) (h:xs.take i=ys.take i) (hi:i<xs.length) (he:xs[i]=ys[i]'(hl▸hi)):xs.take (i+1)=ys.take (i+1):=by
 rw[w14 hi,w14 (hl▸hi),h,he]
theorem jo {xs ys:List α} (hl:xs.length=ys.length) (h:xs.take xs.length=ys.take xs.length):xs=ys:=by
 rw[w09,hl,w09] at h;exact h
theorem kF {xs ys:List α} {i:Nat} (hi:i<xs.length) (hj:i<ys.length) (he:xs[i]≠ys[i]):xs≠ys:=fun h=>he (by subst h;rfl)
theorem kE {xs ys:List α} (h:xs.length≠ys.length):xs≠ys:=fun e=>h (by rw[e])
end
theorem qG (a b:Nat):((a:Int) !=(b:Int))=decide (a≠b):=by
 by_cases h:a=b
 ·subst h;simp
 ·simp[bne,beq_eq_false_iff_ne.2 (show(a:Int)≠b by omega),h]
theorem Okv.all {tab:Nat→Option AFunc} {f:Nat} {args:List AV} {r:AV} (h: ∀m,Okv tab f args m r): ∃K:Mem→Nat,∀m,CALL tab f args m=some (r,m.bump (K m)):=
 ⟨fun m=>(h m).choose,fun m=>(h m).choose_spec⟩
def Own {α:Type} (R:α→AV→Prop) (s:Nat) (y:AV) (xs:List α) (e:List Nat):Prop:=
 (y= .nils∧xs=[])∨ ∃tk ys,y= .list s tk ys∧All2 R xs ys∧(tk= .full∨ ∃t,t∈e∧tk= .id t)
section
variable {α : Type} {R : α → AV → Prop} {s : Nat} {y : AV} {xs cs : List α} {e : List Nat}
theorem Own.nil (e:List Nat):Own R s .nils [] e:= .inl ⟨rfl,rfl⟩
theorem Own.full {ys:List AV} (h:All2 R xs ys) (e:List Nat):Own R s (.list s .full ys) xs e:= .inr ⟨_,_,rfl,h,.inl rfl⟩
theorem Own.mono {e':List Nat} (h:Own R s y xs e) (k: ∀t∈e,t∈e'):Own R s y xs e':=by
 rcases h with h|⟨tk,ys,h1,h2,h3|⟨t,h3,h4⟩⟩
 ·exact .inl h
 ·exact .inr ⟨tk,ys,h1,h2,.inl h3⟩
 ·exact .inr ⟨tk,ys,h1,h2,.inr ⟨t,k t h3,h4⟩⟩
theorem Own.push (ts:List Nat) (h:Own R s y xs e):Own R s y xs (ts++e):=h.mono fun _ h=>w46 _ h
theorem Own.more (ts:List Nat) (h:Own R s y xs e):Own R s y xs (e++ts):=h.mono fun _ h=>w3c _ h
theorem Own.sl (h:Own R s y xs e) (hl:xs.length≤9223372036854775807):IsSl R s xs y:=by
 rcases h with⟨rfl,rfl⟩|⟨tk,ys,rfl,h2,_⟩
 ·exact .nil s
 ·exact .mk h2 hl
theorem Own.cells (h:Own R s y xs e):y.cells=[y]:=by
 rcases h with⟨rfl,_⟩|⟨tk,ys,rfl,_,_⟩<;>rfl
theorem Own.one (h:Own R s y xs e):y.one=true:=by
 rcases h with⟨rfl,_⟩|⟨tk,ys,rfl,_,_⟩<;>rfl
theorem Own.refs (h:Own R s y xs e) (l:Nat):y.refs l=false:=by
 rcases h with⟨rfl,_⟩|⟨tk,ys,rfl,_,_⟩<;>rfl
theorem Own.len (h:Own R s y xs e):evLen y=some (.int .i64 xs.length):=by
 rcases h with⟨rfl,rfl⟩|⟨tk,ys,rfl,h,_⟩
 ·rfl
 ·simp only[evLen,h.len]
theorem Own.at (h:Own R s y xs e) {i:Nat} (k:IntKind) (hi:i<xs.length):evIaddr s y (.int k i)=some (.ro (nth y i).cells):=by
 rcases h with⟨rfl,rfl⟩|⟨tk,ys,rfl,h,_⟩
 ·simp at hi
 ·obtain⟨h1,_⟩:=h.get i hi
  have hl:=h.len
  simp only[evIaddr,beq_self_eq_true,if_true,zw k i ys.length (by omega),w26,h1,w0d,nth]
theorem Own.nth (h:Own R s y xs e) {i:Nat} (hi:i<xs.length):R xs[i] (nth y i):=by
 rcases h with⟨rfl,rfl⟩|⟨tk,ys,rfl,h,_⟩
 ·simp at hi
 ·exact(h.get i hi).2
theorem Own.filter (h:Own R s y xs e):Own R s y xs (e.filter fun t=>y.toks.contains t):=by
 rcases h with h|⟨tk,ys,rfl,h2,h3|⟨t,h3,rfl⟩⟩
 ·exact .inl h
 ·exact .inr ⟨tk,ys,rfl,h2,.inl h3⟩
 ·exact .inr ⟨_,ys,rfl,h2,.inr ⟨t,w53.2 ⟨h3,by simp[AV.toks]⟩,rfl⟩⟩
theorem Own.elems (h:Own R s y xs e): ∃ys,(∀m:Mem,m.elems s y=some ys)∧All2 R xs ys:=by
 rcases h with⟨rfl,rfl⟩|⟨tk,ys,rfl,h,_⟩
 ·exact⟨[],fun _=>rfl,trivial⟩
 ·exact⟨ys,fun m=>by simp[Mem.elems,elemsOf],h⟩
theorem zh (m:Mem) (s:Nat) (tk:Tok) (ys:List AV):m.elems s (.list s tk ys)=some ys:=by simp[Mem.elems,elemsOf]
theorem z3Y (m:Mem) (l:List UInt8):m.elems 1 (.str l)=some (ofBytes l):=by simp[Mem.elems,elemsOf]
theorem z4F (ts:List Nat) {pre:List (List Nat)} (hp:pre≠[]) (post:List (List Nat)):pushToks ts (pre++post)=pushToks ts pre++post:=by
 cases pre with
 |nil=>exact absurd rfl hp
 |cons h r=>rw[w21,yn,yn];rfl
theorem z4E (ts:List Nat) {pre:List (List Nat)} (hp:pre≠[]):(pushToks ts pre).length=pre.length:=by
 cases pre with
 |nil=>exact absurd rfl hp
 |cons h r=>rw[yn];rfl
theorem T8 {t:Nat}: ∀{l:List (List Nat)},t∈l.flatten→hasTok t l=true
 | [],h=>by simp at h
 |a::r,h=>by
  simp only[w43,w0a] at h
  simp only[hasTok,w31]
  rcases h with h|h
  ·exact .inl (by simpa using h)
  ·exact .inr (T8 h)
theorem Ue {t:Nat}: ∀{l r:List (List Nat)},t∈l.flatten→dropTok t (l++r)=dropTok t l++r
 | [],_,h=>by simp at h
 |a::l,r,h=>by
  simp only[w21,dropTok]
  split
  ·rfl
  ·rename_i hc
   simp only[w43,w0a] at h
   rcases h with h|h
   ·exact absurd (by simpa using h) hc
   ·rw[Ue h];rfl
theorem Zo (t:Nat): ∀l:List (List Nat),(dropTok t l).length=l.length
 | []=>rfl
 |a::l=>by
  simp only[dropTok]
  split
  ·rfl
  ·simp[Zo t l]
def Wr (R:α→AV→Prop) (s i:Nat) (y:AV) (xs:List α) (live post:List (List Nat)):Prop:= ∃pre,live=pre++post∧pre.length=i+1∧Own R s y xs pre.flatten
theorem Own.wr (h:Own R s y xs e) (rest:List (List Nat)):Wr R s 0 y xs (e::rest) rest:=⟨[e],rfl,rfl,by simpa using h⟩
theorem Wr.own {rest:List (List Nat)} {live:List (List Nat)} (h:Wr R s 0 y xs live rest): ∃e,live=e::rest∧Own R s y xs e:=by
 obtain⟨pre,rfl,h2,h3⟩:=h
 match pre,h2 with
 | [e],_=>exact⟨e,rfl,by simpa using h3⟩
theorem Wr.enter {i:Nat} {live post:List (List Nat)} (h:Wr R s i y xs live post):Wr R s (i+1) y xs ([]::live) post:=by
 obtain⟨pre,rfl,h2,h3⟩:=h
 exact⟨[]::pre,rfl,by simp[h2],by simpa using h3⟩
theorem Wr.push {i:Nat} {live post:List (List Nat)} (ts:List Nat) (h:Wr R s i y xs live post):Wr R s i y xs (pushToks ts live) post:=by
 obtain⟨pre,rfl,h2,h3⟩:=h
 have hp:pre≠[]:=by intro h;subst h;simp at h2
 exact⟨pushToks ts pre,z4F ts hp post,by rw[z4E ts hp];exact h2,h3.mono fun t h=>by rw[T3];exact w46 _ h⟩
theorem Own.app {m:Mem} {z:AV} {zs:List AV} {bytes:Nat} (ho:Own R s y xs m.live.flatten) (hz:m.elems s z=some zs) (hc:All2 R cs zs) (hl:(xs.length+cs.length)*bytes≤140737488355328):
  (cs=[]∧evApp m s bytes y z=some (y,m))∨
  (∃ys,All2 R (xs++cs) ys∧evApp m s bytes y z=some (.list s (.id m.nx) ys,{m with nx:=m.nx+1,live:=addTok m.nx m.live}))∨
  (∃t ys tk0,y= .list s (.id t) tk0∧t∈m.live.flatten∧All2 R (xs++cs) ys∧evApp m s bytes y z=some (.list s (.id m.nx) ys,{m with nx:=m.nx+1,live:=addTok m.nx (dropTok t m.live)})):=by
 match zs,hc with
 | [],hc=>
  match cs,hc with
  | [],_=>
   refine .inl ⟨rfl,?_⟩
   unfold evApp;rw[hz]
   rcases ho with⟨rfl,_⟩|⟨tk,ys,rfl,_,_⟩
   ·rfl
   ·simp
  |_::_,hc=>exact hc.elim
 |a::r,hc=>
  refine .inr ?_
  have hn:(a::r).length=cs.length:=hc.len
  rcases ho with⟨rfl,rfl⟩|⟨tk,ys,rfl,h2,h3⟩
  ·refine .inl ⟨a::r,hc,?_⟩
   unfold evApp;rw[hz]
   simp only
   rw[if_pos (by rw[hn];simpa using hl)]
  ·have hb:(ys.length+(a::r).length)*bytes≤140737488355328:=by rw[hn,h2.len];exact hl
   rcases h3 with rfl|⟨t,ht,rfl⟩
   ·refine .inl ⟨ys++a::r,h2.append hc,?_⟩
    unfold evApp;rw[hz]
    simp only[beq_self_eq_true,Bool.true_and,decide_eq_true_eq]
    rw[if_pos hb]
   ·refine .inr ⟨t,ys++a::r,ys,rfl,ht,h2.append hc,?_⟩
    unfold evApp;rw[hz]
    simp only[beq_self_eq_true,Bool.true_and,decide_eq_true_eq]
    rw[if_pos hb,T8 ht,if_pos rfl]
theorem z2q (t:Nat) {pre:List (List Nat)} (hp:pre≠[]) (post:List (List Nat)):addTok t (pre++post)=addTok t pre++post:=by
 cases pre with
 |nil=>exact absurd rfl hp
 |cons h r=>rfl
theorem z2p (t:Nat) {pre:List (List Nat)} (hp:pre≠[]):(addTok t pre).length=pre.length:=by
 cases pre with
 |nil=>exact absurd rfl hp
 |cons h r=>rfl
theorem Wr.app {i:Nat} {live post:List (List Nat)} {z:AV} {zs:List AV} {bytes:Nat} (h:Wr R s i y xs live post) (hz: ∀m:Mem,m.elems s z=some zs) (hc:All2 R cs zs) (hl:(xs.length+cs.length)*bytes≤140737488355328)
  (stk:List (List Blk)) (cur:List Blk) (nx fl:Nat):
  ∃y' n live',evApp ⟨stk,cur,nx,live,fl⟩ s bytes y z=some (y',⟨stk,cur,n,live',fl⟩)∧Wr R s i y' (xs++cs) live' post:=by
 obtain⟨pre,rfl,h2,h3⟩:=h
 have hp:pre≠[]:=by intro h;subst h;simp at h2
 rcases Own.app (m:=⟨stk,cur,nx,pre++post,fl⟩) (h3.mono fun t h=>by simp only[List.flatten_append,w0a];exact .inl h) (hz _) hc hl with⟨h,e⟩|⟨ys,q,e⟩|⟨t,ys,q0,hy,_,q,e⟩
 ·exact⟨_,_,_,e,pre,rfl,h2,by subst h;simpa using h3⟩
 ·refine⟨_,_,_,e,addTok nx pre,z2q nx hp post,by rw[z2p nx hp];exact h2,.inr ⟨_,ys,rfl,q,.inr ⟨nx,?_,rfl⟩⟩⟩
  rw[vP];exact w1c
 ·have ht:t∈pre.flatten:=by
   rcases h3 with⟨rfl,_⟩|⟨tk,ys',e1,_,e2|⟨t',e3,e2⟩⟩
   ·cases hy
   ·rw[e1,e2] at hy;cases hy
   ·rw[e1,e2] at hy;injection hy with _ hy _;injection hy with hy;exact hy▸e3
  have hp':dropTok t pre≠[]:=by intro h;have:=Zo t pre;rw[h,h2] at this;simp at this
  simp only[Ue ht,z2q _ hp'] at e
  refine⟨_,_,_,e,addTok nx (dropTok t pre),rfl,by rw[z2p nx hp',Zo];exact h2,.inr ⟨_,ys,rfl,q,.inr ⟨nx,?_,rfl⟩⟩⟩
  rw[vP];exact w1c
theorem z48 {t:Nat}: ∀{j:Nat} {pre:List (List Nat)} (post:List (List Nat)),j<pre.length→addAt t j (pre++post)=addAt t j pre++post
 |0,[],_,h=>by simp at h
 |0,a::r,_,_=>rfl
 |j+1,[],_,h=>by simp at h
 |j+1,a::r,post,h=>by simp only[w21,addAt];rw[z48 post (by simpa using h)]
theorem z46 {t:Nat}: ∀{j:Nat} {pre:List (List Nat)},j<pre.length→(addAt t j pre).length=pre.length
 |0,[],h=>by simp at h
 |0,a::r,_=>rfl
 |j+1,[],h=>by simp at h
 |j+1,a::r,h=>by simp[addAt,z46 (by simpa using h)]
theorem z47 {t:Nat}: ∀{j:Nat} {pre:List (List Nat)},j<pre.length→t∈(addAt t j pre).flatten∧ ∀u∈pre.flatten,u∈(addAt t j pre).flatten
 |0,[],h=>by simp at h
 |0,a::r,_=>by simp[addAt,addTok];intro u h;exact .inr h
 |j+1,[],h=>by simp at h
 |j+1,a::r,h=>by
  have:=z47 (t:=t) (j:=j) (pre:=r) (by simpa using h)
  simp only[addAt,w43,w0a]
  exact⟨.inr this.1,fun u hu=>hu.elim .inl fun hu=> .inr (this.2 u hu)⟩
theorem Wr.sink {i:Nat} {live post:List (List Nat)} (h:Wr R s (i+1) y xs live post): ∃e live',sink (i+1) y.toks live=e::live'∧Wr R s i y xs live' post:=by
 obtain⟨pre,rfl,h2,h3⟩:=h
 match pre,h2 with
 |a::r,h2=>
  have hr:r.length=i+1:=by simpa using h2
  rcases h3 with⟨rfl,rfl⟩|⟨tk,ys,rfl,q,h3⟩
  ·exact⟨a,r++post,rfl,r,rfl,hr,.inl ⟨rfl,rfl⟩⟩
  ·rcases h3 with rfl|⟨t,ht,rfl⟩
   ·exact⟨a,r++post,rfl,r,rfl,hr,.inr ⟨_,ys,rfl,q,.inl rfl⟩⟩
   ·simp only[AV.toks,Vs.sink,sink1,w21,Nat.add_sub_cancel]
    split
    ·refine⟨_,_,rfl,addAt t i r,z48 post (by omega),by rw[z46 (by omega)];exact hr,.inr ⟨_,ys,rfl,q,.inr ⟨t,(z47 (by omega)).1,rfl⟩⟩⟩
    ·rename_i hc
     refine⟨_,_,rfl,r,rfl,hr,.inr ⟨_,ys,rfl,q,.inr ⟨t,?_,rfl⟩⟩⟩
     simp only[w43,w0a] at ht
     rcases ht with ht|ht
     ·exact absurd (by simpa using ht) hc
     ·exact ht
end
section
variable {α : Type} {R : α → AV → Prop} {s : Nat} {xs cs : List α} {tab : Nat → Option AFunc}
def Okl (R:α→AV→Prop) (s:Nat) (tab:Nat→Option AFunc) (f:Nat) (args:List AV) (m:Mem) (xs:List α):Prop:=
 ∃y ts k,CALL tab f args m=some (y,{m with nx:=k,live:=pushToks ts m.live})∧Own R s y xs ts
def Okp (R:α→AV→Prop) (s:Nat) (tab:Nat→Option AFunc) (f:Nat) (args:List AV) (m:Mem) (xs:List α) (r:Int):Prop:=
 ∃y ts k,CALL tab f args m=some (.tup [y,.int .i64 r],{m with nx:=k,live:=pushToks ts m.live})∧Own R s y xs ts
def FinL (R:α→AV→Prop) (s:Nat) (m:Mem) (xs:List α) (v:AV) (m':Mem):Prop:= ∃ts k,m'={m with nx:=k,live:=pushToks ts m.live}∧Own R s v xs ts
def FinP (R:α→AV→Prop) (s:Nat) (m:Mem) (xs:List α) (r:Int) (v:AV) (m':Mem):Prop:= ∃y ts k,v= .tup [y,.int .i64 r]∧m'={m with nx:=k,live:=pushToks ts m.live}∧Own R s y xs ts
theorem qy {f:Nat} {fn:AFunc} (h:tab f=some fn) {args:List AV} {m:Mem} (hx:X tab fn.body (mk fn.ntmps (.tup []) (numb 0 args)) (enter m) (.fin fn.res m (FinL R s m xs))) (hn:args.length≤fn.ntmps:=by exact Nat.le_of_ble_eq_true rfl):
  Okl R s tab f args m xs:=by
 obtain⟨x,h1,ts,k,h2,h3⟩:=zW h hx hn;exact⟨x.1,ts,k,by rw[h1,←h2],h3⟩
theorem z4H {f:Nat} {fn:AFunc} (h:tab f=some fn) {args:List AV} {m:Mem} {r:Int} (hx:X tab fn.body (mk fn.ntmps (.tup []) (numb 0 args)) (enter m) (.fin fn.res m (FinP R s m xs r))) (hn:args.length≤fn.ntmps:=by exact Nat.le_of_ble_eq_true rfl):
  Okp R s tab f args m xs r:=by
 obtain⟨x,h1,y,ts,k,h2,h3,h4⟩:=zW h hx hn;exact⟨y,ts,k,by rw[h1,←h2,←h3],h4⟩
variable {stk : List (List Blk)} {cur c' : List Blk} {nx nx' fl fl' : Nat} {live live' : List (List Nat)} {own : List Nat} {y : AV}
theorem yO {m0:Mem} {r:AV} (h1:r.refs (stk++[cur]).length=false) (h2:r.toks=[]):
  leave m0 ⟨stk++[cur],c',nx',own::live',fl'⟩ r=some (r,⟨stk,cur,nx',live',m0.floor⟩):=by
 have e:own.filter (fun _=>false)=[]:=by simp
 unfold leave
 simp only[w51,w45,Option.some_or,h1,w28,if_false,h2,List.contains_nil,e,pushToks,w52]
theorem z9M (h:Own R s y xs own):leave ⟨stk,cur,nx,live,fl⟩ ⟨stk++[cur],c',nx',own::live',fl'⟩ y=some (y,⟨stk,cur,nx',pushToks (own.filter fun t=>y.toks.contains t) live',fl⟩):=Yu (h.refs _)
theorem vz (h:Own R s y xs own):Opt (leave ⟨stk,cur,nx,live,fl⟩ ⟨stk++[cur],c',nx',own::live,fl'⟩ y) fun r=>FinL R s ⟨stk,cur,nx,live,fl⟩ xs r.1 r.2:=by
 rw[z9M h,z8]
 exact⟨_,nx',rfl,h.filter⟩
theorem YC {r:Int} (h:Own R s y xs own):Opt (leave ⟨stk,cur,nx,live,fl⟩ ⟨stk++[cur],c',nx',own::live,fl'⟩ (.tup [y,.int .i64 r])) fun q=>FinP R s ⟨stk,cur,nx,live,fl⟩ xs r q.1 q.2:=by
 rw[Yu (by simp only[AV.refs,refsAny,h.refs];rfl),z8]
 refine⟨y,_,nx',rfl,rfl,?_⟩
 simp only[AV.toks,toksAll,w1a]
 exact h.filter
variable {ρ : List AV} {m : Mem} {k : Kont} {l : List AOper} {d : Option Nat} {f : Nat} {args : List AV}
theorem Okl.xv (h:Okl R s tab f args m xs) (q: ∀y ts n,Own R s y xs ts→Xs tab l (setDst ρ d y) {m with nx:=n,live:=pushToks ts m.live} k):Xv tab (CALL tab f args m) d l ρ k:=by
 obtain⟨y,ts,n,h1,h2⟩:=h
 rw[h1,td];exact q y ts n h2
theorem Okp.xv {r:Int} (h:Okp R s tab f args m xs r) (q: ∀y ts n,Own R s y xs ts→Xs tab l (setDst ρ d (.tup [y,.int .i64 r])) {m with nx:=n,live:=pushToks ts m.live} k):Xv tab (CALL tab f args m) d l ρ k:=by
 obtain⟨y,ts,n,h1,h2⟩:=h
 rw[h1,td];exact q y ts n h2
theorem Okv.xv {r:AV} (h:Okv tab f args m r) (q: ∀n,Xs tab l (setDst ρ d r) (m.bump n) k):Xv tab (CALL tab f args m) d l ρ k:=by
 obtain⟨n,h1⟩:=h
 rw[h1,td];exact q n
theorem Own.xv {e:List Nat} {rest:List (List Nat)} {z:AV} {zs:List AV} {bytes:Nat} (h:Own R s y xs e) (hz: ∀m:Mem,m.elems s z=some zs) (hc:All2 R cs zs) (hl:(xs.length+cs.length)*bytes≤140737488355328)
  (q: ∀y' n e',Own R s y' (xs++cs) e'→Xs tab l (setDst ρ d y') ⟨stk,cur,n,e'::rest,fl⟩ k):Xv tab (evApp ⟨stk,cur,nx,e::rest,fl⟩ s bytes y z) d l ρ k:=by
 obtain⟨y',n,live',h1,h2⟩:=(h.wr rest).app hz hc hl stk cur nx fl
 obtain⟨e',rfl,h3⟩:=h2.own
 rw[h1,td];exact q y' n e' h3
theorem Wr.xv {i:Nat} {post:List (List Nat)} {z:AV} {zs:List AV} {bytes:Nat} (h:Wr R s i y xs live post) (hz: ∀m:Mem,m.elems s z=some zs) (hc:All2 R cs zs) (hl:(xs.length+cs.length)*bytes≤140737488355328)
  (q: ∀y' n live',Wr R s i y' (xs++cs) live' post→Xs tab l (setDst ρ d y') ⟨stk,cur,n,live',fl⟩ k):Xv tab (evApp ⟨stk,cur,nx,live,fl⟩ s bytes y z) d l ρ k:=by
 obtain⟨y',n,live',h1,h2⟩:=h.app hz hc hl stk cur nx fl
 rw[h1,td];exact q y' n live' h2
end
theorem yg {tab:Nat→Option AFunc} {live:List Nat} {nb:Nat} {a:ACode} {ρ:List AV} {m:Mem} {k:Kont}:
  XL tab live nb a ρ m k=X tab a (heads live nb ⟨ρ,m⟩).ρ (heads live nb ⟨ρ,m⟩).m (.again (fun σ'=>XL tab live nb a σ'.ρ σ'.m k) k):=by
 unfold XL X;rw[z5h];rfl
noncomputable def callNx (tab:Nat→Option AFunc) (f:Nat) (args:List AV) (m:Mem):Nat:=match CALL tab f args m with|some (_,m')=>m'.nx|none=>0
theorem Okv.eq {tab:Nat→Option AFunc} {f:Nat} {args:List AV} {m:Mem} {r:AV} (h:Okv tab f args m r):CALL tab f args m=some (r,m.bump (callNx tab f args m)):=by
 obtain⟨k,h⟩:=h
 rw[h]
 unfold callNx
 rw[h];rfl
noncomputable def pb (p:Prop):Bool:= @decide p (Classical.propDecidable p)
theorem zD {p:Prop} (h:p):pb p=true:=by unfold pb;exact @decide_eq_true p (Classical.propDecidable p) h
theorem zg {p:Prop} (h: ¬p):pb p=false:=by unfold pb;exact @decide_eq_false p (Classical.propDecidable p) h
theorem X4 {p:Prop}:pb p=true↔p:=by
 unfold pb;exact @decide_eq_true_iff p (Classical.propDecidable p)
theorem TR {p:Prop}:pb p=false↔ ¬p:=⟨fun h hp=>(by rw[zD hp] at h;cases h),zg⟩
theorem kc {p:Prop} {b:Bool} (h:b=true↔p):b=pb p:=by
 cases b
 ·rw[zg fun hp=>by have:=h.2 hp;cases this]
 ·rw[zD (h.1 rfl)]
section
variable {tab : Nat → Option AFunc} {ρ : List AV} {m : Mem} {k : Kont} {l : List AOper} {d : Option Nat} {op : AOp} {t : Bool} {a b : ACode}
theorem zo (h1:t=true→X tab a ρ m k) (h2:t=false→X tab b ρ m k):Xc tab (.bool t) a b ρ m k:=by
 cases t
 ·exact h2 rfl
 ·exact h1 rfl
theorem zl (h1:t=true→Xv tab (evOp (CALL tab) ρ m op) d l ρ k) (h2:t=false→Xs tab l (setDst ρ d (.tup [])) m k):Xg tab (.bool t) true d op l ρ m k:=by
 cases t
 ·rw[ze8];exact h2 rfl
 ·rw[ze6];exact h1 rfl
theorem zm (h1:t=true→Xs tab l (setDst ρ d (.tup [])) m k) (h2:t=false→Xv tab (evOp (CALL tab) ρ m op) d l ρ k):Xg tab (.bool t) false d op l ρ m k:=by
 cases t
 ·rw[ze9];exact h2 rfl
 ·rw[ze7];exact h1 rfl
theorem zj {f:Bool} {fl:Nat} {m0:Mem} {ws:Watch} (h1:t=true→Xd tab fl m0 ws (⟨d,op,none,f⟩::l) ρ m k) (h2:t=false→Xd tab fl m0 ws l (setDst ρ d (.tup [])) m k):Xu tab (.bool t) true d op f fl m0 ws l ρ m k:=by
 cases t
 ·rw[ze4];exact h2 rfl
 ·rw[ze2];exact h1 rfl
theorem zk {f:Bool} {fl:Nat} {m0:Mem} {ws:Watch} (h1:t=true→Xd tab fl m0 ws l (setDst ρ d (.tup [])) m k) (h2:t=false→Xd tab fl m0 ws (⟨d,op,none,f⟩::l) ρ m k):Xu tab (.bool t) false d op f fl m0 ws l ρ m k:=by
 cases t
 ·rw[ze5];exact h2 rfl
 ·rw[ze3];exact h1 rfl
end
attribute [go_sem] allLen
section
variable (L : List Blk) (b c d b' : Blk)
theorem yX:(L++[b]).length=L.length+1:=by simp
theorem Uj {k:Nat} (h:k<L.length):(L++[b]++[c])[k]? =L[k]? :=by rw[w07 (by simp;omega),w07 h]
theorem vT:(L++[b])[L.length]? =some b:=by simp
theorem UJ:(L++[b]++[c])[L.length]? =some b:=by simp
theorem zdF:(L++[b]++[c]++[d])[L.length]? =some b:=by simp
theorem XH:(L++[b]++[c])[L.length+1]? =some c:=by simp
theorem zdE:(L++[b]++[c]++[d])[L.length+2]? =some d:=by simp
theorem jz:(L++[b]).set L.length b'=L++[b']:=by rw[List.set_append];simp
theorem z0Q:(L++[b]++[c]).set L.length b'=L++[b']++[c]:=by rw[List.set_append];simp
theorem z97:(L++[b]++[c]).set (L.length+1) b'=L++[b]++[b']:=by rw[List.set_append];simp
theorem zdD:(L++[b]++[c]++[d]).set (L.length+2) b'=L++[b]++[c]++[b']:=by rw[List.set_append];simp
theorem xX:(L++[b]).take (L.length+1)=L++[b]:=w2f (by simp)
theorem Zq:(L++[b]++[c]).take (L.length+1)=L++[b]:=by rw[w56 (by simp),xX]
theorem Qf:(L++[b]++[c]).take (L.length+2)=L++[b]++[c]:=w2f (by simp)
theorem zdC:(L++[b]++[c]++[d]).take (L.length+2)=L++[b]++[c]:=by rw[w56 (by simp),Qf]
end
def ints (ws:List Nat):List AV:=ws.map fun n:Nat=> .int .i64 (n:Int)
theorem Yz (ws:List Nat):(ints ws).length=ws.length:=by simp[ints]
theorem Q5 {ws:List Nat} {j:Nat} (h:j<ws.length):takeV false 1 ((ints ws).drop j)=some (.int .i64 ((ws.getD j 0:Nat):Int)):=by
 have:(ints ws).drop j= .int .i64 ((ws.getD j 0:Nat):Int)::(ints ws).drop (j+1):=by
  rw[List.drop_eq_getElem_cons (by rw[Yz];exact h)]
  simp[ints,w00,h]
 rw[this,z1a]
theorem U8 {ws:List Nat} {j:Nat} (v:Nat) (h:j<ws.length):(ints ws).take j++[.int .i64 (v:Int)]++(ints ws).drop (j+1)=ints (ws.set j v):=by
 unfold ints
 rw[List.map_set,w5b,if_pos (by simpa using h)];simp
theorem z6x (n:Nat):flatRep [.int .i64 0] n=ints (List.replicate n 0):=by
 induction n with
 |zero=>rfl
 |succ n ih=>rw[flatRep,ih,w54];rfl
theorem za (s l k st off len:Nat) (i:AV):evIaddr s (.arr l k st off len) i=(idx i len).map fun j=> .ptr l k st (off+j*s):=rfl
theorem Th (l l' k:Nat) (ws:List Nat):shiftAll l l' k (ints ws)=ints ws:=by
 induction ws with
 |nil=>rfl
 |cons w r ih=>simp only[ints,w35,shiftAll,AV.shift] at ih⊢;rw[ih]
theorem z9O {m0:Mem} {stk:List (List Blk)} {cur c':List Blk} {nx' fl':Nat} {own:List Nat} {live':List (List Nat)} {k st off len:Nat}:
  ∃bs:List Blk,leave m0 ⟨stk++[cur],c',nx',own::live',fl'⟩ (.arr (stk++[cur]).length k st off len)=some (.arr stk.length (k+cur.length) st off len,⟨stk,cur++bs,nx',live',m0.floor⟩)∧
   ∀ws,c'[k]? =some ⟨st,ints ws⟩→bs[k]? =some ⟨st,ints ws⟩:=by
 have e:own.filter (fun _=>false)=[]:=by simp
 refine⟨c'.map fun b=>⟨b.st,shiftAll (stk++[cur]).length ((stk++[cur]).length-1) cur.length b.cs⟩,?_,?_⟩
 ·unfold leave
  simp only[w51,w45,Option.some_or,AV.refs,beq_self_eq_true,if_true,AV.toks,List.contains_nil,e,pushToks,w52,AV.shift]
  simp
 ·intro ws h
  rw[w19,h,w0d,Th]
theorem qc (k:IntKind) {p:Int} {n:Nat} (h:0≤p∧p<n):idx (.int k p) n=some p.toNat:=by
 unfold idx;simp only[h,and_self,if_true]
end Go.Vs
end
section
namespace Go.Proofs.W
open Go.Vs
set_option linter.unusedSimpArgs false
set_option maxRecDepth 100000
def minimal (n:Nat):List UInt8:=if h:n<128 then [UInt8.ofNat n] else UInt8.ofNat (n%128+128)::minimal (n/128)
 termination_by n
 decreasing_by omega
theorem Xr {n:Nat} (h:n<128):minimal n=[UInt8.ofNat n]:=by rw[minimal,dif_pos h]
theorem Tl {n:Nat} (h: ¬n<128):minimal n=UInt8.ofNat (n%128+128)::minimal (n/128):=by rw[minimal,dif_neg h]
theorem z0d: ∀(k n:Nat),n<128^(k+1)→(minimal n).length≤k+1
 |0,n,h=>by rw[Xr (by omega)];simp
 |k+1,n,h=>by
  by_cases h1:n<128
  ·rw[Xr h1];simp
  ·rw[Tl h1]
   have:=z0d k (n/128) (by rw[Nat.div_lt_iff_lt_mul (by omega)];rw[Nat.pow_succ] at h;exact h)
   simp only[w29];omega
theorem zi {n:Nat} (h:n<18446744073709551616):(minimal n).length≤10:=z0d 9 n (by omega)
theorem Yx {a:Nat} (h:a<256):IsByte (UInt8.ofNat a) (.int .u8 (a:Int)):=by
 have:(UInt8.ofNat a).toNat=a:=by simp;omega
 unfold IsByte;rw[this]
theorem zn {α:Type} {l:List α} {i:Nat} (h:i<l.length) {P:α→Prop} (h1: ∀x∈l.take i,P x) (h2:P l[i]): ∀x∈l.take (i+1),P x:=by
 intro x hx
 rw[w14 h] at hx
 rcases w0a.1 hx with hx|hx
 ·exact h1 x hx
 ·simp at hx;rw[hx];exact h2
theorem zJ {α:Type} {R:α→AV→Prop} {x:α} {y:AV} (h:R x y):All2 R [x] [y]:=⟨h,trivial⟩
theorem Va {n:Nat}:IntKind.u8.wrap (n:Int)=((n%256:Nat):Int):=by
 unfold IntKind.wrap
 simp[IntKind.signed,IntKind.bits]
theorem zaY (a b:Nat):((a:Int).tdiv (b:Int))=((a/b:Nat):Int):=rfl
theorem zF (n:Nat) (hn:n<18446744073709551616) (m:Mem):Okl IsByte 1 tab zx [.int .u64 n] m (minimal n):=by
 refine qy Yh ?_
 obtain⟨stk,cur,nx,live,fl⟩:=m
 simp only[vH,List.map,go_sem]
 refine zb (α:=Nat×List UInt8×AV×List Nat×Nat) (fun z σ=>(z.1<18446744073709551616∧z.2.1++minimal z.1=minimal n∧Own IsByte 1 z.2.2.1 z.2.1 z.2.2.2.1)∧heads [0,3] 0 σ=⟨tmps 20 [(0,.int .u64 z.1),(3,z.2.2.1)],⟨stk++[cur],[],z.2.2.2.2,z.2.2.2.1::live,fl⟩⟩) (fun z=>z.1) (n,[],.nils,[],nx) ?_ ?_
 ·refine⟨⟨hn,rfl,.nil _⟩,?_⟩
  simp only[go_sem,G0,G1]
 ·rintro⟨a,b,y,e,nx⟩ σ ⟨⟨ha,hb,ho⟩,hσ⟩
  rw[hσ]
  dsimp only at ha hb ho⊢
  have hl:=zi hn
  rw[←hb,w04] at hl
  by_cases h:a<128
  ·have h': ¬((a:Int)≥128):=by omega
   rw[Xr h] at hb hl
   simp only[go_sem,G0,G1,G2,h',Va,allLen]
   refine ho.xv (zh · _ _ _) (zJ (Yx (Nat.mod_lt _ (by omega)))) (by simp;omega) fun y' n' e' ho'=> ?_
   simp only[go_sem,G0,G2]
   rw[show UInt8.ofNat (a%256)=UInt8.ofNat a by rw[Nat.mod_eq_of_lt (by omega)],hb] at ho'
   exact vz ho'
  ·have h':(a:Int)≥128:=by omega
   rw[Tl h] at hb hl
   have e1:IntKind.u8.wrap (IntKind.u8.wrap (((a:Int).tmod 128))+128)=((a%128+128:Nat):Int):=by
    have:IntKind.u8.wrap ((a:Int).tmod 128)=((a%128:Nat):Int):=by
     rw[show((a:Int).tmod 128)=((a%128:Nat):Int) from rfl,z8w (by omega) (by omega)]
    rw[this,z8w (by omega) (by omega)]
    omega
   have e2:IntKind.u64.wrap ((a:Int).tdiv 128)=((a/128:Nat):Int):=by
    rw[show((a:Int).tdiv 128)=((a/128:Nat):Int) from rfl,zH (by omega) (by omega)]
   simp only[go_sem,G0,G1,G2,h',e1,allLen,(by decide: ¬((128:Int)=0))]
   refine ho.xv (zh · _ _ _) (zJ (Yx (by omega))) (by simp;omega) fun y' n' e' ho'=> ?_
   simp only[go_sem,G0,G2,e2,(by decide: ¬((128:Int)=0))]
   exact⟨(a/128,_,y',e',n'),by dsimp only;omega,⟨by dsimp only;omega,by dsimp only;rw[w0f];exact hb,ho'⟩,rfl⟩
def zigzag (n:Int):Nat:=if 0≤n then(2*n).toNat else(-2*n-1).toNat
theorem qD {n:Int} (h:in64 n):zigzag n<18446744073709551616:=by unfold in64 at h;unfold zigzag;split<;>omega
theorem z4a {n:Int} (h1: -18446744073709551616≤n) (h2:n<0):IntKind.u64.wrap n=n+18446744073709551616:=by
 unfold IntKind.wrap
 simp[IntKind.signed,IntKind.bits]
 omega
theorem qS (n:Int) (hn:in64 n) (m:Mem):Okv tab xn [.int .i64 n] m (.int .u64 (zigzag n)):=by
 refine zf X0 ?_
 obtain⟨stk,cur,nx,live,fl⟩:=m
 simp only[u9,List.map,go_sem,G0,G2]
 unfold in64 at hn
 by_cases h:n≥0
 ·have e1:IntKind.u64.wrap n=n:=zH (by omega) (by omega)
  have e2:IntKind.u64.wrap (n*2)=((zigzag n:Nat):Int):=by rw[zH (by omega) (by omega)];unfold zigzag;rw[if_pos h];omega
  simp only[go_sem,G0,G2,h,e1,e2]
  rw[z6 rfl rfl,z8]
  exact⟨⟨_,rfl⟩,rfl⟩
 ·have e1:IntKind.i64.wrap (n+1)=n+1:=zc (by omega) (by omega)
  have e2:IntKind.i64.wrap (0-(n+1))= -1-n:=by rw[zc (by omega) (by omega)];omega
  have e3:IntKind.u64.wrap (-1-n)= -1-n:=zH (by omega) (by omega)
  have e4:IntKind.u64.wrap ((-1-n)*2)= -2-2*n:=by rw[zH (by omega) (by omega)];omega
  have e5:IntKind.u64.wrap (-2-2*n+1)=((zigzag n:Nat):Int):=by rw[zH (by omega) (by omega)];unfold zigzag;rw[if_neg h];omega
  simp only[go_sem,G0,G2,h,e1,e2,e3,e4,e5]
  rw[z6 rfl rfl,z8]
  exact⟨⟨_,rfl⟩,rfl⟩
theorem zt (n:Nat) (hn:n<9223372036854775808) (m:Mem):Okl IsByte 1 tab zr [.int .i64 n] m (minimal n):=by
 refine qy YT ?_
 obtain⟨stk,cur,nx,live,fl⟩:=m
 have e:IntKind.u64.wrap (n:Int)=n:=zH (by omega) (by omega)
 simp only[vY,List.map,go_sem,G0,G2,e]
 refine(zF n (by omega) _).xv fun y ts k ho=> ?_
 simp only[go_sem,G0,G2,yn]
 exact vz ho
def said (s:List UInt8):List UInt8:=minimal s.length++s
theorem te (s:List UInt8) (hs:s.length≤1000000) (m:Mem):Okl IsByte 1 tab x4 [.str s] m (said s):=by
 refine qy VB ?_
 obtain⟨stk,cur,nx,live,fl⟩:=m
 have e:IntKind.u64.wrap (s.length:Int)=s.length:=zH (by omega) (by omega)
 simp only[tI,List.map,go_sem,G0,G2,e]
 have hl:=zi (n:=s.length) (by omega)
 refine(zF s.length (by omega) _).xv fun y ts k ho=> ?_
 simp only[go_sem,G0,G2,yn]
 refine ho.xv (z3Y · _) (kr s) (by omega) fun y' n' e' ho'=> ?_
 simp only[go_sem,G0,G2]
 exact vz ho'
theorem zcV: ∀c:Fin 256,IntKind.u8.wrap ((BitVec.ofInt 8 (c.val:Int)|||BitVec.ofInt 8 128).toNat:Int)=((c.val%128+128:Nat):Int):=by decide+kernel
theorem zeu {c:Nat} (h:c<256):evBits .or .u8 (c:Int) 128=some (.int .u8 ((c%128+128:Nat):Int)):=by
 have:=zcV ⟨c,h⟩
 exact congrArg (fun x=>some (AV.int .u8 x)) this
theorem UW (b:Nat) (hb:b<256) (y:AV) (l:List UInt8) (hl:l.length≤100) (stk:List (List Blk)) (st nx fl:Nat) (e:List Nat) (rest:List (List Nat)) (hf:fl≤stk.length) (ho:Own IsByte 1 y l e):
  ∃y' n e',CALL tab qp [.int .u8 b,.ptr stk.length 0 st 0] ⟨stk,[⟨st,[y]⟩],nx,e::rest,fl⟩=some (.tup [],⟨stk,[⟨st,[y']⟩],n,e'::rest,fl⟩)∧Own IsByte 1 y' (l++[UInt8.ofNat b]) e':=by
 suffices h:Does tab qp [.int .u8 b,.ptr stk.length 0 st 0] ⟨stk,[⟨st,[y]⟩],nx,e::rest,fl⟩ fun v m'=> ∃y' n e',v= .tup []∧m'=⟨stk,[⟨st,[y']⟩],n,e'::rest,fl⟩∧Own IsByte 1 y' (l++[UInt8.ofNat b]) e' by
  obtain⟨x,h1,y',n,e',h2,h3,h4⟩:=h
  exact⟨y',n,e',by rw[h1,←h2,←h3],h4⟩
 refine zW z2I ?_ (Nat.le_of_ble_eq_true rfl)
 have hne: ∀z:List Blk,(stk.length==(stk++[z]).length)=false:=fun z=>by simp
 have hg: ∀z:List Blk,(stk++[z]).getD stk.length []=z:=fun z=>by simp
 simp only[ZV,List.map,go_sem,G3,G0,G2,hne,hg,allLen]
 refine(ho.wr rest).enter.xv (zh · _ _ _) (zJ (Yx hb)) (by simp;omega) fun y' n' live' hw=> ?_
 have ho': ∃e,Own IsByte 1 y' (l++[UInt8.ofNat b]) e:=let ⟨_,_,_,h⟩:=hw;⟨_,h⟩
 obtain⟨e0,ho'⟩:=ho'
 obtain⟨e1,live1,hs,hw1⟩:=hw.sink
 obtain⟨e2,rfl,ho2⟩:=hw1.own
 have hml: ∀z:List Blk,(stk++[z]).length-stk.length=0+1:=fun z=>by simp
 have hmod: ∀z f,(stk++[z]).modify stk.length f=stk++[f z]:=fun z f=>by
  rw[w4e (by simp)];simp
 simp only[go_sem,G0,G2,hne,hg,ho'.cells,ho'.one,hf,hml,hs,hmod]
 rw[yO rfl rfl,z8]
 exact⟨y',n',e2,rfl,rfl,ho2⟩
theorem qE (n:Nat) (hn:n<18446744073709551616) (stk:List (List Blk)) (cur:List Blk) (nx fl:Nat) (live:List (List Nat)) (hf:fl≤stk.length+1):Okl IsByte 1 tab vQ [.int .u64 n] ⟨stk,cur,nx,live,fl⟩ (minimal n):=by
 refine qy z5x ?_
 simp only[Um,List.map,go_sem,G0,G2]
 refine zb (α:=Nat×List UInt8×AV×List Nat×Nat) (fun z σ=>(z.1<18446744073709551616∧z.2.1++minimal z.1=minimal n∧Own IsByte 1 z.2.2.1 z.2.1 z.2.2.2.1)∧heads [0,3,4] 1 σ=⟨tmps 20 [(0,.int .u64 z.1),(3,.ptr (stk++[cur]).length 0 nx 0),(4,.fn (.func qp) [] [.ptr (stk++[cur]).length 0 nx 0])],⟨stk++[cur],[⟨nx,[z.2.2.1]⟩],z.2.2.2.2,z.2.2.2.1::live,fl⟩⟩) (fun z=>z.1) (n,[],.nils,[],nx+1) ?_ ?_
 ·refine⟨⟨hn,rfl,.nil _⟩,?_⟩
  simp only[go_sem,G0,G1]
 ·rintro⟨a,b,y,e,nz⟩ σ ⟨⟨ha,hb,ho⟩,hσ⟩
  rw[hσ]
  dsimp only at ha hb ho⊢
  have hl:=zi hn
  rw[←hb,w04] at hl
  have hf':fl≤(stk++[cur]).length:=by simp;omega
  by_cases h:a<128
  ·have h': ¬((a:Int)≥128):=by omega
   rw[Xr h] at hb hl
   obtain⟨y',n',e',hc,ho'⟩:=UW (a%256) (by omega) y b (by omega) (stk++[cur]) nx nz fl e live hf' ho
   simp only[go_sem,G0,G1,G2,h',Va,hc]
   rw[show UInt8.ofNat (a%256)=UInt8.ofNat a by rw[Nat.mod_eq_of_lt (by omega)],hb] at ho'
   exact vz ho'
  ·have h':(a:Int)≥128:=by omega
   rw[Tl h] at hb hl
   have e1:evBits .or .u8 ((a%256:Nat):Int) 128=some (.int .u8 ((a%128+128:Nat):Int)):=by
    rw[zeu (by omega),show a%256%128=a%128 by omega]
   have e2:(a:Int).fdiv (2^min (Int.toNat 7) 64)=((a/128:Nat):Int):=by
    rw[Int.fdiv_eq_ediv_of_nonneg _ (by decide)];simp
   obtain⟨y',n',e',hc,ho'⟩:=UW (a%128+128) (by omega) y b (by omega) (stk++[cur]) nx nz fl e live hf' ho
   simp only[go_sem,G0,G1,G2,h',Va,e1,hc,evShift,IntKind.bits,(by decide: ¬((7:Int)<0)),e2]
   exact⟨(a/128,_,y',e',n'),by dsimp only;omega,⟨by dsimp only;omega,by dsimp only;rw[w0f];exact hb,ho'⟩,rfl⟩
theorem zaD (x:BitVec 64):(x^^^BitVec.ofInt 64 (-1))= ~~~x:=by
 have:BitVec.ofInt 64 (-1)=BitVec.allOnes 64:=by decide
 rw[this,BitVec.xor_allOnes]
theorem UX (n:Int) (hn:in64 n) (stk:List (List Blk)) (cur:List Blk) (nx fl:Nat) (live:List (List Nat)) (hf:fl≤stk.length+1):Okl IsByte 1 tab jC [.int .i64 n] ⟨stk,cur,nx,live,fl⟩ (minimal (zigzag n)):=by
 refine qy z2J ?_
 have hz:=qD hn
 unfold in64 at hn
 have key:evBits .xor .u64 (IntKind.u64.wrap (IntKind.u64.wrap n*2^min (Int.toNat 1) 64)) (IntKind.u64.wrap (n.fdiv (2^min (Int.toNat 63) 64)))=some (.int .u64 ((zigzag n:Nat):Int)):=by
  refine congrArg (fun x=>some (AV.int .u64 x)) (?_:IntKind.u64.wrap ((BitVec.ofInt 64 (IntKind.u64.wrap (IntKind.u64.wrap n*2^min (Int.toNat 1) 64))^^^BitVec.ofInt 64 (IntKind.u64.wrap (n.fdiv (2^min (Int.toNat 63) 64)))).toNat:Int)=((zigzag n:Nat):Int))
  rw[show min (Int.toNat 1) 64=1 from rfl,show min (Int.toNat 63) 64=63 from rfl,Int.fdiv_eq_ediv_of_nonneg _ (by decide)]
  by_cases h:0≤n
  ·have e1:IntKind.u64.wrap n=n:=zH (by omega) (by omega)
   have e2:n/2^63=0:=Int.ediv_eq_zero_of_lt h (by omega)
   have e3:IntKind.u64.wrap (n*2^1)=n*2:=zH (by omega) (by omega)
   rw[e1,e2,e3]
   have e4:BitVec.ofInt 64 (IntKind.u64.wrap 0)=0#64:=rfl
   rw[e4,BitVec.xor_zero,BitVec.toNat_ofInt]
   unfold zigzag;rw[if_pos h]
   rw[zH (by omega) (by omega)];omega
  ·have e1:IntKind.u64.wrap n=n+18446744073709551616:=z4a (by omega) (by omega)
   have e2:n/2^63= -1:=by omega
   have e3:IntKind.u64.wrap ((n+18446744073709551616)*2^1)=n*2+18446744073709551616:=by
    unfold IntKind.wrap
    simp[IntKind.signed,IntKind.bits]
    omega
   rw[e1,e2,e3]
   have e4:BitVec.ofInt 64 (IntKind.u64.wrap (-1))=BitVec.ofInt 64 (-1):=rfl
   rw[e4,zaD,BitVec.toNat_not,BitVec.toNat_ofInt]
   unfold zigzag;rw[if_neg h]
   rw[zH (by omega) (by omega)];omega
 simp only[ZW,List.map,go_sem,G0,G2,evShift,(by decide: ¬((1:Int)<0)),(by decide: ¬((63:Int)<0)),IntKind.bits,key]
 have hf':fl≤(stk++[cur]).length+1:=by simp;omega
 refine(qE _ hz _ _ _ _ _ hf').xv fun y ts k ho=> ?_
 simp only[go_sem,G0,G2]
 exact vz ho
def shp (op:Int):List UInt8:=
 if op=1 then [119,110,45] else if op=2 then [119,116,45] else if op=3 then [119,98,45] else if op=4∨op=15 then [119,45,45]
 else if op=5∨op=12∨op=16∨op=18∨op=21∨op=33 then [119,114,45]
 else if op=6∨op=7∨op=8∨op=9∨op=10∨op=11∨op=19 then [119,114,114]
 else if op=13 then [119,114,102] else if op=14 then [114,102,114] else if op=17 then [114,114,45] else if op=20 then [114,114,114]
 else if op=22 then [105,45,45] else if op=23 then [114,105,45] else if op=24∨op=28∨op=32 then [114,45,45] else if op=25 then [103,99,45]
 else if op=26∨op=27 then [99,45,45] else if op=29 then [119,119,45] else if op=30∨op=31 then [45,45,45] else if op=34 then [101,45,45] else []
theorem z0D (op:Int) (m:Mem):Okv tab yK [.int .u8 op] m (.str (shp op)):=by
 refine zf Wd ?_
 obtain⟨stk,cur,nx,live,fl⟩:=m
 simp only[uC,List.map,go_sem,G0,G2]
 repeat' (((first|refine zo ?_ ?_|refine zl ?_ ?_|refine zm ?_ ?_|refine zj ?_ ?_|refine zk ?_ ?_)<;>intro hq)<;>simp only[go_sem,G0,G2,hq])
 all_goals
  rw[z6 rfl rfl,z8]
  refine⟨⟨_,rfl⟩,?_⟩
  simp only[beq_iff_eq,beq_eq_false_iff_ne] at*
  unfold shp
  first|(subst op;rfl)|(simp[*];done)
theorem z5b {tab:Nat→Option AFunc} {f:Nat} {args:List AV} {m m':Mem} {v:AV} {d:Option Nat} {l:List AOper} {ρ:List AV} {k:Kont} (h:CALL tab f args m=some (v,m')) (q:Xs tab l (setDst ρ d v) m' k):Xv tab (CALL tab f args m) d l ρ k:=by
 rw[h,td];exact q
def U (lo hi:Int) (r w:Bool):List AV:=[.int .i64 lo,.int .i64 hi,.bool r,.bool w]
theorem VF (j:Nat) (l:List (List Nat)):sink j [] l=l:=rfl
theorem zef (m:Mem):Okv tab yu [] m (.agg (U 0 15 true false)):=by
 refine zf z7i ?_
 obtain⟨stk,cur,nx,live,fl⟩:=m
 simp only[Tz,List.map,go_sem,reduceCtorEq,G3,G4,G2,evBuild]
 rw[z6 rfl rfl,z8]
 exact⟨⟨_,rfl⟩,rfl⟩
theorem zct (m:Mem):Okv tab x6 [] m (.agg (U 0 15 false true)):=by
 refine zf z5y ?_
 obtain⟨stk,cur,nx,live,fl⟩:=m
 simp only[Un,List.map,go_sem,reduceCtorEq,G3,G4,G2,evBuild]
 rw[z6 rfl rfl,z8]
 exact⟨⟨_,rfl⟩,rfl⟩
theorem zcu (m:Mem):Okv tab Uv [] m (.agg (U (-9223372036854775808) 9223372036854775807 false false)):=by
 refine zf z5z ?_
 obtain⟨stk,cur,nx,live,fl⟩:=m
 simp only[Uo,List.map,go_sem,reduceCtorEq,G3,G4,G2,evBuild]
 rw[z6 rfl rfl,z8]
 exact⟨⟨_,rfl⟩,rfl⟩
theorem z0C (n:Int) (hn:0≤n∧n≤1000) (m:Mem):Okv tab xp [.int .i64 n] m (.agg (U 0 (n-1) false false)):=by
 refine zf z5B ?_
 obtain⟨stk,cur,nx,live,fl⟩:=m
 simp only[Uq,List.map,go_sem,reduceCtorEq,G3,G0,G4,G2,evBuild,zc (n:=n-1) (by omega) (by omega)]
 rw[z6 rfl rfl,z8]
 exact⟨⟨_,rfl⟩,rfl⟩
theorem z79 (a b:Int) (c d:Bool) (stk:List (List Blk)) (st st2 nx fl:Nat) (live:List (List Nat)) (hf:fl≤stk.length):
  CALL tab zM [.list 4 .full [.agg (U a b c d)],.ptr stk.length 0 st 0,.ptr stk.length 1 st2 0] ⟨stk,[⟨st,U 0 0 false false++U 0 0 false false++U 0 0 false false⟩,⟨st2,[.int .i64 0]⟩],nx,live,fl⟩=
   some (.tup [],⟨stk,[⟨st,U a b c d++U 0 0 false false++U 0 0 false false⟩,⟨st2,[.int .i64 1]⟩],callNx tab zM [.list 4 .full [.agg (U a b c d)],.ptr stk.length 0 st 0,.ptr stk.length 1 st2 0] ⟨stk,[⟨st,U 0 0 false false++U 0 0 false false++U 0 0 false false⟩,⟨st2,[.int .i64 0]⟩],nx,live,fl⟩,live,fl⟩):=by
 suffices h: ∃k,CALL tab zM [.list 4 .full [.agg (U a b c d)],.ptr stk.length 0 st 0,.ptr stk.length 1 st2 0] ⟨stk,[⟨st,U 0 0 false false++U 0 0 false false++U 0 0 false false⟩,⟨st2,[.int .i64 0]⟩],nx,live,fl⟩=some (.tup [],⟨stk,[⟨st,U a b c d++U 0 0 false false++U 0 0 false false⟩,⟨st2,[.int .i64 1]⟩],k,live,fl⟩) by
  obtain⟨k,h⟩:=h
  rw[h];unfold callNx;rw[h]
 suffices h:Does tab zM [.list 4 .full [.agg (U a b c d)],.ptr stk.length 0 st 0,.ptr stk.length 1 st2 0] ⟨stk,[⟨st,U 0 0 false false++U 0 0 false false++U 0 0 false false⟩,⟨st2,[.int .i64 0]⟩],nx,live,fl⟩ fun v m'=> ∃k,v= .tup []∧m'=⟨stk,[⟨st,U a b c d++U 0 0 false false++U 0 0 false false⟩,⟨st2,[.int .i64 1]⟩],k,live,fl⟩ by
  obtain⟨x,h1,k,h2,h3⟩:=h
  exact⟨k,by rw[h1,←h2,←h3]⟩
 refine zW ZB ?_ (Nat.le_of_ble_eq_true rfl)
 have hne: ∀z:List Blk,(stk.length==(stk++[z]).length)=false:=fun z=>by simp
 have hg: ∀z:List Blk,(stk++[z]).getD stk.length []=z:=fun z=>by simp
 have hmod: ∀z f,(stk++[z]).modify stk.length f=stk++[f z]:=fun z f=>by
  rw[w4e (by simp)];simp
 simp only[qo,List.map,go_sem,reduceCtorEq,G3,G5,G0,G2,hne,hg,evSliceA,evCopy0,AV.asArr,bound,U,zh,w30,List.flatMap_nil,hf,hmod,w59,w4d,Nat.zero_mul,G6,VF,show min 1 3=1 from rfl,Nat.succ_ne_zero]
 rw[yO rfl rfl,z8]
 exact⟨_,rfl,rfl⟩
theorem z78 (a b a2 b2:Int) (c d c2 d2:Bool) (stk:List (List Blk)) (st st2 nx fl:Nat) (live:List (List Nat)) (hf:fl≤stk.length):
  CALL tab zM [.list 4 .full [.agg (U a b c d),.agg (U a2 b2 c2 d2)],.ptr stk.length 0 st 0,.ptr stk.length 1 st2 0] ⟨stk,[⟨st,U 0 0 false false++U 0 0 false false++U 0 0 false false⟩,⟨st2,[.int .i64 0]⟩],nx,live,fl⟩=
   some (.tup [],⟨stk,[⟨st,U a b c d++U a2 b2 c2 d2++U 0 0 false false⟩,⟨st2,[.int .i64 2]⟩],callNx tab zM [.list 4 .full [.agg (U a b c d),.agg (U a2 b2 c2 d2)],.ptr stk.length 0 st 0,.ptr stk.length 1 st2 0] ⟨stk,[⟨st,U 0 0 false false++U 0 0 false false++U 0 0 false false⟩,⟨st2,[.int .i64 0]⟩],nx,live,fl⟩,live,fl⟩):=by
 suffices h: ∃k,CALL tab zM [.list 4 .full [.agg (U a b c d),.agg (U a2 b2 c2 d2)],.ptr stk.length 0 st 0,.ptr stk.length 1 st2 0] ⟨stk,[⟨st,U 0 0 false false++U 0 0 false false++U 0 0 false false⟩,⟨st2,[.int .i64 0]⟩],nx,live,fl⟩=some (.tup [],⟨stk,[⟨st,U a b c d++U a2 b2 c2 d2++U 0 0 false false⟩,⟨st2,[.int .i64 2]⟩],k,live,fl⟩) by
  obtain⟨k,h⟩:=h
  rw[h];unfold callNx;rw[h]
 suffices h:Does tab zM [.list 4 .full [.agg (U a b c d),.agg (U a2 b2 c2 d2)],.ptr stk.length 0 st 0,.ptr stk.length 1 st2 0] ⟨stk,[⟨st,U 0 0 false false++U 0 0 false false++U 0 0 false false⟩,⟨st2,[.int .i64 0]⟩],nx,live,fl⟩ fun v m'=> ∃k,v= .tup []∧m'=⟨stk,[⟨st,U a b c d++U a2 b2 c2 d2++U 0 0 false false⟩,⟨st2,[.int .i64 2]⟩],k,live,fl⟩ by
  obtain⟨x,h1,k,h2,h3⟩:=h
  exact⟨k,by rw[h1,←h2,←h3]⟩
 refine zW ZB ?_ (Nat.le_of_ble_eq_true rfl)
 have hne: ∀z:List Blk,(stk.length==(stk++[z]).length)=false:=fun z=>by simp
 have hg: ∀z:List Blk,(stk++[z]).getD stk.length []=z:=fun z=>by simp
 have hmod: ∀z f,(stk++[z]).modify stk.length f=stk++[f z]:=fun z f=>by
  rw[w4e (by simp)];simp
 simp only[qo,List.map,go_sem,reduceCtorEq,G3,G5,G0,G2,hne,hg,evSliceA,evCopy0,AV.asArr,bound,U,zh,w30,List.flatMap_nil,hf,hmod,w59,w4d,Nat.zero_mul,G6,VF,show min 2 3=2 from rfl,Nat.succ_ne_zero]
 rw[yO rfl rfl,z8]
 exact⟨_,rfl,rfl⟩
theorem z77 (a b a2 b2 a3 b3:Int) (c d c2 d2 c3 d3:Bool) (stk:List (List Blk)) (st st2 nx fl:Nat) (live:List (List Nat)) (hf:fl≤stk.length):
  CALL tab zM [.list 4 .full [.agg (U a b c d),.agg (U a2 b2 c2 d2),.agg (U a3 b3 c3 d3)],.ptr stk.length 0 st 0,.ptr stk.length 1 st2 0] ⟨stk,[⟨st,U 0 0 false false++U 0 0 false false++U 0 0 false false⟩,⟨st2,[.int .i64 0]⟩],nx,live,fl⟩=
   some (.tup [],⟨stk,[⟨st,U a b c d++U a2 b2 c2 d2++U a3 b3 c3 d3⟩,⟨st2,[.int .i64 3]⟩],callNx tab zM [.list 4 .full [.agg (U a b c d),.agg (U a2 b2 c2 d2),.agg (U a3 b3 c3 d3)],.ptr stk.length 0 st 0,.ptr stk.length 1 st2 0] ⟨stk,[⟨st,U 0 0 false false++U 0 0 false false++U 0 0 false false⟩,⟨st2,[.int .i64 0]⟩],nx,live,fl⟩,live,fl⟩):=by
 suffices h: ∃k,CALL tab zM [.list 4 .full [.agg (U a b c d),.agg (U a2 b2 c2 d2),.agg (U a3 b3 c3 d3)],.ptr stk.length 0 st 0,.ptr stk.length 1 st2 0] ⟨stk,[⟨st,U 0 0 false false++U 0 0 false false++U 0 0 false false⟩,⟨st2,[.int .i64 0]⟩],nx,live,fl⟩=some (.tup [],⟨stk,[⟨st,U a b c d++U a2 b2 c2 d2++U a3 b3 c3 d3⟩,⟨st2,[.int .i64 3]⟩],k,live,fl⟩) by
  obtain⟨k,h⟩:=h
  rw[h];unfold callNx;rw[h]
 suffices h:Does tab zM [.list 4 .full [.agg (U a b c d),.agg (U a2 b2 c2 d2),.agg (U a3 b3 c3 d3)],.ptr stk.length 0 st 0,.ptr stk.length 1 st2 0] ⟨stk,[⟨st,U 0 0 false false++U 0 0 false false++U 0 0 false false⟩,⟨st2,[.int .i64 0]⟩],nx,live,fl⟩ fun v m'=> ∃k,v= .tup []∧m'=⟨stk,[⟨st,U a b c d++U a2 b2 c2 d2++U a3 b3 c3 d3⟩,⟨st2,[.int .i64 3]⟩],k,live,fl⟩ by
  obtain⟨x,h1,k,h2,h3⟩:=h
  exact⟨k,by rw[h1,←h2,←h3]⟩
 refine zW ZB ?_ (Nat.le_of_ble_eq_true rfl)
 have hne: ∀z:List Blk,(stk.length==(stk++[z]).length)=false:=fun z=>by simp
 have hg: ∀z:List Blk,(stk++[z]).getD stk.length []=z:=fun z=>by simp
 have hmod: ∀z f,(stk++[z]).modify stk.length f=stk++[f z]:=fun z f=>by
  rw[w4e (by simp)];simp
 simp only[qo,List.map,go_sem,reduceCtorEq,G3,G5,G0,G2,hne,hg,evSliceA,evCopy0,AV.asArr,bound,U,zh,w30,List.flatMap_nil,hf,hmod,w59,w4d,Nat.zero_mul,G6,VF,show min 3 3=3 from rfl,Nat.succ_ne_zero]
 rw[yO rfl rfl,z8]
 exact⟨_,rfl,rfl⟩
def lo (c:UInt8):Int:=if c=110 then-9223372036854775808 else if c=103∨c=101 then-1 else 0
def hi (c:UInt8):Int:=if c=110 then 9223372036854775807 else if c=45 then 0 else if c=116∨c=99 then 31 else if c=98 then 1 else if c=102 then 7 else if c=105 then 199 else 15
def rd (c:UInt8):Bool:=c==114||c==101
def wt (c:UInt8):Bool:=c==119||c==103
def useOf (c:UInt8):List AV:=U (lo c) (hi c) (rd c) (wt c)
def cnt (s:List UInt8):Int:=((s.filter fun c=>c !=45).length:Nat)
noncomputable def shapeOf (op:Int):AV:=
 if shp op=[] then .tup [.agg (U 0 0 false false++U 0 0 false false++U 0 0 false false),.int .i64 (-1)] else .tup [.agg ((shp op).flatMap useOf),.int .i64 (cnt (shp op))]
theorem Ve (op:Int) (m:Mem) (hf:m.floor≤m.stk.length+1):Okv tab jR [.int .u8 op] m (shapeOf op):=by
 refine zf z5A ?_
 obtain⟨stk,cur,nx,live,fl⟩:=m
 dsimp only at hf
 have hf':fl≤(stk++[cur]).length:=by simp;omega
 have i0:idx (.int .i64 0) 3=some 0:=rfl
 have i1:idx (.int .i64 1) 3=some 1:=rfl
 have i2:idx (.int .i64 2) 3=some 2:=rfl
 simp only[Up,List.map,go_sem,reduceCtorEq,G0,G2]
 repeat' first|(((first|refine zo ?_ ?_|refine zl ?_ ?_|refine zm ?_ ?_|refine zj ?_ ?_|refine zk ?_ ?_)<;>intro hq)<;>simp only[go_sem,reduceCtorEq,G3,G0,G4,G2,hq,bne_self_eq_false,G7,VF,w59,w4d])|((first|(refine(zef _).xv fun n=> ?_)|(refine(zct _).xv fun n=> ?_)|(refine(zcu _).xv fun n=> ?_)|(refine(z0C 32 (by decide) _).xv fun n=> ?_)|(refine(z0C 2 (by decide) _).xv fun n=> ?_)|(refine(z0C 8 (by decide) _).xv fun n=> ?_)|(refine(z0C 200 (by decide) _).xv fun n=> ?_)|(refine z5b (z79 _ _ _ _ _ _ _ _ _ _ hf') ?_)|(refine z5b (z78 _ _ _ _ _ _ _ _ _ _ _ _ _ _ hf') ?_)|(refine z5b (z77 _ _ _ _ _ _ _ _ _ _ _ _ _ _ _ _ _ _ hf') ?_))<;>simp only[go_sem,reduceCtorEq,G3,G0,G4,G2,U,bne_self_eq_false,G7,evIaddrA,i0,i1,i2,G6,VF,w59,w4d])
 all_goals
  simp only[beq_iff_eq,beq_eq_false_iff_ne] at*
  rw[z6 rfl rfl,z8]
  refine⟨⟨_,rfl⟩,?_⟩
  first|(subst op;rfl)|(have hs:shp op=[]:=(by unfold shp;simp[*]);unfold shapeOf;rw[if_pos hs];first|done|rfl)
end Go.Proofs.W
end
section
namespace Go.Vs
def inU64 (n:Int):Prop:=0≤n∧n<18446744073709551616
def inU8 (n:Int):Prop:=0≤n∧n<256
def strOk (s:List UInt8):Prop:=s.length≤9223372036854775807
structure DField where
 name:List UInt8
 typ:Int
 deriving DecidableEq
def IsField (d:DField) (y:AV):Prop:=y= .agg [.str d.name,.int .i64 d.typ]
structure WfField (d:DField):Prop where
 name:strOk d.name
 typ:in64 d.typ
theorem IsField.agg {d:DField} {y:AV} (h:IsField d y):takeV true 2 y.cells=some y∧y.cells.length=2:=by
 obtain rfl:=h
 exact⟨rfl,rfl⟩
structure DTyp where
 kind:Int
 elem:Int
 len:Int
 fields:List DField
 deriving DecidableEq
def IsTyp (d:DTyp) (y:AV):Prop:= ∃v0,y= .agg [.int .u8 d.kind,.int .i64 d.elem,.int .i64 d.len,v0]∧IsSl IsField 2 d.fields v0
structure WfTyp (d:DTyp):Prop where
 kind:inU8 d.kind
 elem:in64 d.elem
 len:in64 d.len
 fields: ∀x∈d.fields,WfField x
theorem IsTyp.agg {d:DTyp} {y:AV} (h:IsTyp d y):takeV true 4 y.cells=some y∧y.cells.length=4:=by
 obtain⟨v0,rfl,_⟩:=h
 exact⟨rfl,rfl⟩
structure DInstr where
 op:Int
 a:Int
 b:Int
 c:Int
 deriving DecidableEq
def IsInstr (d:DInstr) (y:AV):Prop:=y= .agg [.int .u8 d.op,.int .i64 d.a,.int .i64 d.b,.int .i64 d.c]
structure WfInstr (d:DInstr):Prop where
 op:inU8 d.op
 a:in64 d.a
 b:in64 d.b
 c:in64 d.c
theorem IsInstr.agg {d:DInstr} {y:AV} (h:IsInstr d y):takeV true 4 y.cells=some y∧y.cells.length=4:=by
 obtain rfl:=h
 exact⟨rfl,rfl⟩
structure DRun where
 frm:Int
 value:Int
 deriving DecidableEq
def IsRun (d:DRun) (y:AV):Prop:=y= .agg [.int .i64 d.frm,.int .u64 d.value]
structure WfRun (d:DRun):Prop where
 frm:in64 d.frm
 value:inU64 d.value
theorem IsRun.agg {d:DRun} {y:AV} (h:IsRun d y):takeV true 2 y.cells=some y∧y.cells.length=2:=by
 obtain rfl:=h
 exact⟨rfl,rfl⟩
structure DFunc where
 name:List UInt8
 params:Int
 result:Int
 slots:List DField
 code:List DInstr
 sizes:List DRun
 lives:List DRun
 deriving DecidableEq
def IsFunc (d:DFunc) (y:AV):Prop:= ∃v0 v1 v2 v3,y= .agg [.str d.name,.int .i64 d.params,.int .i64 d.result,v0,v1,v2,v3]∧IsSl IsField 2 d.slots v0∧IsSl IsInstr 4 d.code v1∧IsSl IsRun 2 d.sizes v2∧IsSl IsRun 2 d.lives v3
structure WfFunc (d:DFunc):Prop where
 name:strOk d.name
 params:in64 d.params
 result:in64 d.result
 slots: ∀x∈d.slots,WfField x
 code: ∀x∈d.code,WfInstr x
 sizes: ∀x∈d.sizes,WfRun x
 lives: ∀x∈d.lives,WfRun x
theorem IsFunc.agg {d:DFunc} {y:AV} (h:IsFunc d y):takeV true 7 y.cells=some y∧y.cells.length=7:=by
 obtain⟨v0,v1,v2,v3,rfl,_,_,_,_⟩:=h
 exact⟨rfl,rfl⟩
structure DImage where
 types:List DTyp
 texts:List (List UInt8)
 funcs:List DFunc
 deriving DecidableEq
def IsImage (d:DImage) (y:AV):Prop:= ∃v0 v1 v2,y= .agg [v0,v1,v2]∧IsSl IsTyp 4 d.types v0∧IsSl IsStr 1 d.texts v1∧IsSl IsFunc 7 d.funcs v2
structure WfImage (d:DImage):Prop where
 types: ∀x∈d.types,WfTyp x
 texts: ∀x∈d.texts,strOk x
 funcs: ∀x∈d.funcs,WfFunc x
theorem IsImage.agg {d:DImage} {y:AV} (h:IsImage d y):takeV true 3 y.cells=some y∧y.cells.length=3:=by
 obtain⟨v0,v1,v2,rfl,_,_,_⟩:=h
 exact⟨rfl,rfl⟩
structure DRegion where
 base:Int
 bytes:List UInt8
 deriving DecidableEq
def IsRegion (d:DRegion) (y:AV):Prop:= ∃v0,y= .agg [.int .u64 d.base,v0]∧IsSl IsByte 1 d.bytes v0
theorem IsRegion.agg {d:DRegion} {y:AV} (h:IsRegion d y):takeV true 2 y.cells=some y∧y.cells.length=2:=by
 obtain⟨v0,rfl,_⟩:=h
 exact⟨rfl,rfl⟩
structure DRoutine where
 status:Int
 code:Int
 sp:Int
 defers:Int
 panics:Int
 key:Int
 deriving DecidableEq
def IsRoutine (d:DRoutine) (y:AV):Prop:=y= .agg [.int .u8 d.status,.int .u64 d.code,.int .u64 d.sp,.int .u64 d.defers,.int .u64 d.panics,.int .i64 d.key]
theorem IsRoutine.agg {d:DRoutine} {y:AV} (h:IsRoutine d y):takeV true 6 y.cells=some y∧y.cells.length=6:=by
 obtain rfl:=h
 exact⟨rfl,rfl⟩
structure DEnded where
 outcome:Int
 failing:Int
 steps:Int
 deriving DecidableEq
def IsEnded (d:DEnded) (y:AV):Prop:=y= .agg [.int .u8 d.outcome,.int .i64 d.failing,.int .i64 d.steps]
theorem IsEnded.agg {d:DEnded} {y:AV} (h:IsEnded d y):takeV true 3 y.cells=some y∧y.cells.length=3:=by
 obtain rfl:=h
 exact⟨rfl,rfl⟩
structure DDump where
 image:DImage
 ended:DEnded
 heap:DRegion
 stacks:List DRegion
 routines:List DRoutine
 defers:List (List Int)
 panics:List (List Int)
 deriving DecidableEq
def IsDump (d:DDump) (y:AV):Prop:= ∃v0 v1 v2 v3 v4 v5 v6 v7,y= .agg [v0,v1,v2,.int .u8 d.ended.outcome,.int .i64 d.ended.failing,.int .i64 d.ended.steps,.int .u64 d.heap.base,v3,v4,v5,v6,v7]∧IsSl IsTyp 4 d.image.types v0∧IsSl IsStr 1 d.image.texts v1∧IsSl IsFunc 7 d.image.funcs v2∧IsSl IsByte 1 d.heap.bytes v3∧IsSl IsRegion 2 d.stacks v4∧IsSl IsRoutine 6 d.routines v5∧IsSl (IsSl (IsK .u64) 1) 1 d.defers v6∧IsSl (IsSl (IsK .u64) 1) 1 d.panics v7
theorem IsDump.agg {d:DDump} {y:AV} (h:IsDump d y):takeV true 12 y.cells=some y∧y.cells.length=12:=by
 obtain⟨v0,v1,v2,v3,v4,v5,v6,v7,rfl,_,_,_,_,_,_,_,_⟩:=h
 exact⟨rfl,rfl⟩
structure DSection where
 kind:Int
 data:List UInt8
 deriving DecidableEq
def IsSection (d:DSection) (y:AV):Prop:= ∃v0,y= .agg [.int .u8 d.kind,v0]∧IsSl IsByte 1 d.data v0
theorem IsSection.agg {d:DSection} {y:AV} (h:IsSection d y):takeV true 2 y.cells=some y∧y.cells.length=2:=by
 obtain⟨v0,rfl,_⟩:=h
 exact⟨rfl,rfl⟩
structure DFrame where
 start:Int
 func:Int
 at_:Int
 code:Int
 size:Int
 mode:Int
 record:Int
 caller:Int
 deriving DecidableEq
def IsFrame (d:DFrame) (y:AV):Prop:=y= .agg [.int .u64 d.start,.int .i64 d.func,.int .i64 d.at_,.int .u64 d.code,.int .i64 d.size,.int .u64 d.mode,.int .u64 d.record,.int .u64 d.caller]
theorem IsFrame.agg {d:DFrame} {y:AV} (h:IsFrame d y):takeV true 8 y.cells=some y∧y.cells.length=8:=by
 obtain rfl:=h
 exact⟨rfl,rfl⟩
end Go.Vs
end
section
namespace Go.Proofs.W
open Go.Vs
set_option linter.unusedSimpArgs false
set_option maxRecDepth 100000
def shapes:List (List UInt8):=[[119,110,45],[119,116,45],[119,98,45],[119,45,45],[119,114,45],[119,114,114],[119,114,102],[114,102,114],[114,114,45],[114,114,114],[105,45,45],[114,105,45],[114,45,45],[103,99,45],[99,45,45],[119,119,45],[45,45,45],[101,45,45],[]]
theorem z8F (op:Int):shp op∈shapes:=by
 by_cases h:0≤op∧op≤34
 ·have hall: ∀k:Fin 35,shp (k.val:Int)∈shapes:=by decide+kernel
  have:=hall ⟨op.toNat,by omega⟩
  rwa [show((op.toNat:Nat):Int)=op by omega] at this
 ·have:shp op=[]:=by
   unfold shp
   repeat rw[if_neg (by omega)]
  rw[this];decide
theorem z8G (op:Int):shp op=[]∨ ∃a b c,shp op=[a,b,c]:=by
 have h: ∀s∈shapes,s=[]∨s.length=3:=by decide
 rcases h _ (z8F op) with h|h
 ·exact .inl h
 ·right
  match hs:shp op,h with
  | [a,b,c],_=>exact⟨a,b,c,rfl⟩
def letterOk (c:UInt8):Prop:=c=45∨c=119∨c=114∨c=103∨c=101∨c=110∨c=116∨c=98∨c=102∨c=105∨c=99
instance (c:UInt8):Decidable (letterOk c):=by unfold letterOk;exact inferInstance
def lettersB (s:List UInt8):Bool:=match s with
 | [a,b,c]=>decide (letterOk a∧letterOk b∧letterOk c∧(cnt [a,b,c]≤0↔a=45)∧(cnt [a,b,c]≤1↔b=45)∧(cnt [a,b,c]≤2↔c=45))
 |_=>true
theorem z09 {op:Int} {a b c:UInt8} (h:shp op=[a,b,c]):letterOk a∧letterOk b∧letterOk c∧(cnt [a,b,c]≤0↔a=45)∧(cnt [a,b,c]≤1↔b=45)∧(cnt [a,b,c]≤2↔c=45):=by
 have hall: ∀s∈shapes,lettersB s=true:=by decide
 have:=hall _ (z8F op)
 rw[h] at this
 exact of_decide_eq_true this
def opn (x:DInstr):Nat→Int
 |0=>x.a
 |1=>x.b
 |_=>x.c
def fitsK (c:UInt8) (n:Int):Prop:=lo c≤n∧n≤hi c
def InstrP (x:DInstr):Prop:= ∃a b c,shp x.op=[a,b,c]∧fitsK a x.a∧fitsK b x.b∧fitsK c x.c
noncomputable def err06 (x:DInstr):Int:=if pb (InstrP x) then 0 else 8
theorem xu {x:DInstr} (h: ¬InstrP x):err06 x=8:=by unfold err06;rw[zg h];rfl
theorem jN {x:DInstr} (h:InstrP x):err06 x=0:=by unfold err06;rw[zD h];rfl
theorem Qt (c:UInt8) (hc:letterOk c) (n:Int) (hn:in64 n) (m:Mem):Okv tab tO [.int .u8 c.toNat,.int .i64 n] m (.bool (pb (fitsK c n))):=by
 refine zf Vy ?_
 obtain⟨stk,cur,nx,live,fl⟩:=m
 have hk: ∀k:UInt8,(((c.toNat:Int))=(k.toNat:Int))↔c=k:=fun k=>by
  rw[Int.ofNat_inj,UInt8.toNat_inj]
 have e45:=hk 45
 have e119:=hk 119
 have e114:=hk 114
 have e103:=hk 103
 have e101:=hk 101
 have e116:=hk 116
 have e99:=hk 99
 have e98:=hk 98
 have e102:=hk 102
 have e105:=hk 105
 simp only[tF,List.map,go_sem,G3,G0,G2]
 repeat' (((first|refine zo ?_ ?_|refine zl ?_ ?_|refine zm ?_ ?_|refine zj ?_ ?_|refine zk ?_ ?_)<;>intro hq)<;>simp only[go_sem,G0,G2,hq])
 all_goals
  rw[z6 rfl rfl,z8]
  refine⟨⟨_,rfl⟩,congrArg AV.bool (kc ?_)⟩
  unfold in64 at hn
  simp only[decide_eq_true_eq,decide_eq_false_iff_not,beq_iff_eq,beq_eq_false_iff_ne,ne_eq] at*
  unfold letterOk at hc
  rcases hc with rfl|rfl|rfl|rfl|rfl|rfl|rfl|rfl|rfl|rfl|rfl<;>first|(exfalso;simp_all;done)|(unfold fitsK;simp only[lo,hi];simp;omega)
theorem qT (x:DInstr) (m:Mem):Okv tab yo [.agg [.int .u8 x.op,.int .i64 x.a,.int .i64 x.b,.int .i64 x.c]] m (.agg [.int .i64 x.a,.int .i64 x.b,.int .i64 x.c]):=by
 refine zf Zy ?_
 obtain⟨stk,cur,nx,live,fl⟩:=m
 simp only[vi,List.map,go_sem,G3,G0,G4,G2,evBuild]
 rw[z6 rfl rfl,z8]
 exact⟨⟨_,rfl⟩,rfl⟩
theorem kN (x:DInstr) (m:Mem):Okv tab tR [.agg [.int .u8 x.op,.int .i64 x.a,.int .i64 x.b,.int .i64 x.c]] m (.agg [.int .i64 x.a,.int .i64 x.b,.int .i64 x.c]):=by
 refine zf z1c ?_
 obtain⟨stk,cur,nx,live,fl⟩:=m
 simp only[Z5,List.map,go_sem,G3,G0,G4,G2,evBuild]
 rw[z6 rfl rfl,z8]
 exact⟨⟨_,rfl⟩,rfl⟩
theorem i0:idx (.int .i64 0) 3=some 0:=rfl
theorem i1:idx (.int .i64 1) 3=some 1:=rfl
theorem i2:idx (.int .i64 2) 3=some 2:=rfl
theorem w01:IntKind.i64.wrap (0+1)=1:=rfl
theorem w12:IntKind.i64.wrap (1+1)=2:=rfl
theorem w23:IntKind.i64.wrap (2+1)=3:=rfl
theorem l03:((0:Int)<3)=True:=eq_true (by decide)
theorem l13:((1:Int)<3)=True:=eq_true (by decide)
theorem l23:((2:Int)<3)=True:=eq_true (by decide)
theorem l33:((3:Int)<3)=False:=eq_false (by decide)
theorem xU {x:DInstr} {a b c:UInt8} (h:shp x.op=[a,b,c]):InstrP x↔fitsK a x.a∧fitsK b x.b∧fitsK c x.c:=by
 unfold InstrP
 rw[h]
 constructor
 ·rintro⟨a',b',c',e,h1⟩
  injection e with e1 e;injection e with e2 e;injection e with e3 e
  subst e1;subst e2;subst e3
  exact h1
 ·exact fun h1=>⟨a,b,c,rfl,h1⟩
def WfI (x:DInstr):Prop:=in64 x.a∧in64 x.b∧in64 x.c
theorem T0 (x:DInstr) (hw:WfI x) (m:Mem):Okv tab xO [.agg [.int .u8 x.op,.int .i64 x.a,.int .i64 x.b,.int .i64 x.c]] m (.int .i64 (err06 x)):=by
 refine zf Wf ?_
 obtain⟨stk,cur,nx,live,fl⟩:=m
 simp only[uE,List.map,go_sem,G3,G0,G2]
 rcases z8G x.op with hs|⟨a,b,c,hs⟩
 ·simp only[go_sem,G3,G0,G2,(z0D x.op _).eq,(qT x _).eq,hs,show((((0:Nat)):Int) !=3)=true from rfl]
  rw[z6 rfl rfl,z8]
  exact⟨⟨_,rfl⟩,by rw[xu];rintro⟨a,b,c,h,_⟩;rw[hs] at h;cases h⟩
 ·obtain⟨ha,hb,hc,_⟩:=z09 hs
  simp only[go_sem,G3,G0,G2,(z0D x.op _).eq,(qT x _).eq,hs,show((((3:Nat)):Int) !=3)=false from rfl]
  rw[yg]
  simp only[go_sem,G3,G0,G1,G2,l03,i0,evIaddrA,Nat.zero_mul]
  by_cases hf1:fitsK a x.a
  case neg=>
   simp only[go_sem,G0,G2,(Qt a ha x.a hw.1 _).eq,zg hf1]
   rw[z6 rfl rfl,z8]
   exact⟨⟨_,rfl⟩,by rw[xu fun h'=>hf1 ((xU hs).1 h').1]⟩
  simp only[go_sem,G0,G2,(Qt a ha x.a hw.1 _).eq,zD hf1,w01]
  rw[yg]
  simp only[go_sem,G3,G0,G1,G2,l13,i1,evIaddrA,w15]
  by_cases hf2:fitsK b x.b
  case neg=>
   simp only[go_sem,G0,G2,(Qt b hb x.b hw.2.1 _).eq,zg hf2]
   rw[z6 rfl rfl,z8]
   exact⟨⟨_,rfl⟩,by rw[xu fun h'=>hf2 ((xU hs).1 h').2.1]⟩
  simp only[go_sem,G0,G2,(Qt b hb x.b hw.2.1 _).eq,zD hf2,w12]
  rw[yg]
  simp only[go_sem,G3,G0,G1,G2,l23,i2,evIaddrA,w15]
  by_cases hf3:fitsK c x.c
  case neg=>
   simp only[go_sem,G0,G2,(Qt c hc x.c hw.2.2 _).eq,zg hf3]
   rw[z6 rfl rfl,z8]
   exact⟨⟨_,rfl⟩,by rw[xu fun h'=>hf3 ((xU hs).1 h').2.2]⟩
  simp only[go_sem,G0,G2,(Qt c hc x.c hw.2.2 _).eq,zD hf3,w23]
  rw[yg]
  simp only[go_sem,G0,G1,G2,l33]
  rw[z6 rfl rfl,z8]
  exact⟨⟨_,rfl⟩,by rw[jN ((xU hs).2 ⟨hf1,hf2,hf3⟩)]⟩
end Go.Proofs.W
end
