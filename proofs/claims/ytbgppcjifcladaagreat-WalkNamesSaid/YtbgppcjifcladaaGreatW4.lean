/-
  Part 5 of the proof, shared by claims of this seat: W1Pa, W1Pb0, W1Pb1, W1Pb2, W1Pc, W1Tie.
-/
import Derived.Test.YtbgppcjifcladaaGreatW3
import Derived.KernelRfl
import Derived.Test.YtbgppcjifcladaaGreatProg
set_option maxHeartbeats 64000000
set_option linter.unusedVariables false
set_option linter.unusedSimpArgs false
section
namespace Go.Proofs.W
open Go.Vs Go.Vs.Sn
set_option maxRecDepth 1000000
noncomputable abbrev E (lv N:Nat) (c:ACode) (ρ:List AV) (m:Mem):=ev (callG (reTab tab) gmask lv) lv (relive N c) ⟨ρ,m⟩
noncomputable abbrev K (lv N:Nat) (c:ACode) (ρ:List AV) (m:Mem):=kSnap N ((kC N c).run (kOraG tab gmask lv) lv (kArgs ρ 0 kNil) m)
noncomputable abbrev KR (lv N:Nat) (c:ACode) (keep:Bool) (nb j:Nat) (ρ:List AV) (m:Mem):=kSnap N (kRnds N (fun τ m=>(kC N (sL c)).run (kOraG tab gmask lv) lv τ m) keep nb j (kArgs ρ 0 kNil) m)
noncomputable abbrev LI (lv N nb:Nat) (c:ACode) (live:List Nat) (k:Nat) (ρ:List AV) (m:Mem):=lpI (callG (reTab tab) gmask lv) N lv nb c live k ⟨ρ,m⟩
noncomputable abbrev C (lv f:Nat) (xs:List AV) (m:Mem):=(callG (reTab tab) gmask lv).call (some f) xs m
def zw0:List AV:=[e,e,e,e,e,e,e,e,e,e,e,e,e,e,e,e,e,e,e,e,e,e,e,e]
def zr1:List AV:=zw0++(zw0++(zw0++(zw0++(zw0++(zw0++(zw0++(zw0++(zw0++(zw0++([e,e,e]))))))))))
def zm2:Mem:=⟨[[]],[],0,[[]],0⟩
def zc3:ACode:=zq.body
def zw4:List AV:=[F,(p 1 6 6 0),.nils,(i 8),.nils,(i 2),.nils,(i 2),(p 1 13 971 0),.nils,(i 0),e,e,e,e,e,e,e,e,e,e,e,e,e]
def zv5:AV:=(.int .i64 (.negSucc 0))
def zw6:List AV:=[(u 34),zv5,(i 0),(i 0)]
def zv7:AV:=(Fl 2 [(G [(i 0),(q 0)])])
def zw8:List AV:=[(.str [109]),(i 0),zv5,.nils,(Fl 4 [(G zw6)]),zv7,zv7]
def zw9:List AV:=[(q 16777216),(.arr 1 3 3 0 24)]
def zw10:List AV:=[(u 1),(q 256),(q 16777240),(q 0),(q 0),(i 0)]
def zw11:List AV:=[.nils,.nils,(Fl 7 [(G zw8)]),(u 5),(i 0),(i 0),(q 65536),.nils,(Fl 2 [(G zw9)]),(Fl 6 [(G zw10)]),(.arr 1 4 4 0 1),(.arr 1 5 5 0 1)]
def zw12:List AV:=[.nils,.nils,.nils,(u 0),(i 0),(i 0),(q 0),.nils,.nils,.nils,.nils,.nils]
def zw13:List AV:=[e,e,e,e,e,e,e,e,e,e,e,e,(G zw11),(.tup [.nils,(i 8)]),(G zw12),(.tup [.nils,(i 8)]),.nils,(i 8),(.tup [.nils,(i 2)]),(G zw11),(.tup [.nils,(i 2)]),.nils,(i 2),(.tup [.nils,(i 2)])]
def zv14:AV:=(L 2 962 [(G [(i 0),(q 0)])])
def zv15:AV:=(L 2 963 [(G [(i 0),(q 0)])])
def zw16:List AV:=[(.str [109]),(i 0),zv5,(Fl 2 []),(L 4 961 [(G zw6)]),zv14,zv15]
def zv17:AV:=(L 1 969 [(Fl 1 [])])
def zv18:AV:=(L 1 970 [(Fl 1 [])])
def zw19:List AV:=[.nils,(Fl 1 []),(L 7 964 [(G zw16)]),(u 5),(i 0),(i 0),(q 65536),(Fl 1 []),(.grow 2 1 11 967 1),(.grow 6 1 12 968 1),zv17,zv18]
def zw20:List AV:=[(u 3),(q 0),(q 16777216),(q 0),(q 0),(i 0)]
def zw21:List AV:=[(G zw11),(.tup [.nils,(i 2)]),.nils,(i 2),(G zw11),(G zw19),(p 1 13 971 9),(.grow 6 1 12 968 1),(G zw20),(p 1 12 968 0),(p 1 13 971 8),(.grow 2 1 11 967 1),(p 1 11 967 0),(p 1 11 967 1),(.tup [.nils,(i 0)]),(G zw19),(.tup [.nils,(i 0)]),.nils,(i 0),(i 0),F,F,.nils,(i 0)]
def zw22:List AV:=[F,F,e,e,e,e,e,e,e,e,e,e,e,e,e,e,e,e,e,e,e,e,e,e]
def zr23:List AV:=zw4++(zw13++(zw21++(zw22++(zw0++(zw0++(zw0++(zw0++(zw0++(zw0++([e,e,e]))))))))))
def zw24:List AV:=[.nils,.nils,(Fl 7 [(G zw8)])]
def zw25:List AV:=[(u 0),(u 0),(u 0),(u 0),(u 0),(u 0),(u 0),(u 0),(u 0),(u 0),(u 0),(u 0),(u 0),(u 0),(u 0),(u 0),(u 0),(u 0),(u 0),(u 0),(u 0),(u 0),(u 0),(u 0)]
def zb26:List Blk:=[⟨0,zw11⟩,⟨1,zw24⟩,⟨2,zw10⟩,⟨3,zw25⟩,⟨4,[.nils]⟩,⟨5,[.nils]⟩,⟨6,zw11⟩,⟨955,zw11⟩]
def zw27:List AV:=[(q 65536),(Fl 1 [])]
def zb28:List Blk:=[⟨956,zw19⟩,⟨965,zw27⟩,⟨966,zw25⟩,⟨967,[(q 16777216),.nils]⟩,⟨968,zw20⟩,⟨971,zw19⟩]
def zb29:List Blk:=zb26++(zb28)
def zm30:Mem:=⟨[[]],zb29,1438,[[970,969,964]],0⟩
def zc34:ACode:=spD 10 zc3
def zc35:ACode:=sL zc34
def zw36:List AV:=[F,(p 1 6 6 0),.nils,(i 8),.nils,(i 2),.nils,(i 2),(p 1 13 971 0),.nils,(i 0),(i 0),e,e,e,e,e,e,e,e,e,e,e,e]
def zr37:List AV:=zw36++(zw13++(zw21++(zw22++(zw0++(zw0++(zw0++(zw0++(zw0++(zw0++([e,e,e]))))))))))
def zc41:ACode:=spD 1 zc35
def zw42:List AV:=[F,(p 1 6 6 0),.nils,(i 8),.nils,(i 2),.nils,(i 2),(p 1 13 971 0),.nils,(i 0),(i 3),(p 1 20 2837 0),(i 32),.nils,(i 12),e,e,e,e,e,e,e,e]
def zv43:AV:=(L 2 2828 [(G [(i 0),(q 0)])])
def zv44:AV:=(L 2 2829 [(G [(i 0),(q 0)])])
def zw45:List AV:=[(.str [109]),(i 0),zv5,(Fl 2 []),(L 4 2827 [(G zw6)]),zv43,zv44]
def zv46:AV:=(L 7 2830 [(G zw45)])
def zv47:AV:=(.grow 2 1 18 2833 1)
def zv48:AV:=(.grow 6 1 19 2834 1)
def zv49:AV:=(L 1 2835 [(Fl 1 [])])
def zv50:AV:=(L 1 2836 [(Fl 1 [])])
def zw51:List AV:=[.nils,(Fl 1 []),zv46,(u 5),(i 0),(i 0),(q 65536),(Fl 1 []),zv47,zv48,zv49,zv50]
def zw52:List AV:=[(i 0),(i 16),(i 32),(i 24),(i 24),(i 24)]
def zv53:AV:=(.arr 1 21 2838 0 32)
def zw54:List AV:=[F,F,(i 2),T,(i 2),(i 3),(G zw11),(G zw51),(Fl 1 zw52),(i 2),(.ro [(i 32)]),(i 32),(p 1 20 2837 8),zv47,(i 32),zv53,(p 1 18 2833 0),(p 1 18 2833 1),(p 1 20 2837 9),zv48,(i 32),(q 32),(q 16777248),(p 1 19 2834 0)]
def zw55:List AV:=[(p 1 19 2834 2),(i 2),F,e,e,e,e,e,e,(i 2),F,e,e,e,e,e,e,(i 2),F,e,e,e,e,e]
def zv56:AV:=(.tup [.nils,(i 12)])
def zw57:List AV:=[e,zv56,(G zw51),zv56,.nils,(i 12),(i 12),F,e,e,e,e,e,e,e,e,e,e,e,e,e,e,e,e]
def zr58:List AV:=zw42++(zw13++(zw21++(zw54++(zw55++(zw57++(zw0++(zw0++(zw0++(zw0++([e,e,e]))))))))))
def zb59:List Blk:=[⟨956,zw19⟩,⟨965,zw27⟩,⟨966,zw25⟩,⟨967,[(q 16777216),.nils]⟩,⟨968,zw20⟩,⟨971,zw19⟩,⟨2821,zw11⟩,⟨2822,zw51⟩]
def zw60:List AV:=[(u 1),(q 256),(q 16777248),(q 0),(q 0),(i 0)]
def zw61:List AV:=[(u 0),(u 0),(u 0),(u 0),(u 0),(u 0),(u 0),(u 0)]
def zw62:List AV:=zw25++(zw61)
def zb63:List Blk:=[⟨2831,zw27⟩,⟨2832,zw25⟩,⟨2833,[(q 16777216),zv53]⟩,⟨2834,zw60⟩,⟨2837,zw51⟩,⟨2838,zw62⟩]
def zb64:List Blk:=zb26++(zb59++(zb63))
def zm65:Mem:=⟨[[]],zb64,3589,[[2836,2835,2830,2144,2143,2138,1453,1452,1447,970,969,964]],0⟩
def zw68:List AV:=[F,(p 1 6 6 0),.nils,(i 8),.nils,(i 2),.nils,(i 2),(p 1 13 971 0),.nils,(i 0),(i 5),(p 1 20 4375 0),(i 24),.nils,(i 12),e,e,e,e,e,e,e,e]
def zv69:AV:=(L 2 4366 [(G [(i 0),(q 0)])])
def zv70:AV:=(L 2 4367 [(G [(i 0),(q 0)])])
def zw71:List AV:=[(.str [109]),(i 0),zv5,(Fl 2 []),(L 4 4365 [(G zw6)]),zv69,zv70]
def zv72:AV:=(L 7 4368 [(G zw71)])
def zv73:AV:=(.grow 2 1 18 4371 1)
def zv74:AV:=(.grow 6 1 19 4372 1)
def zv75:AV:=(L 1 4373 [(Fl 1 [])])
def zv76:AV:=(L 1 4374 [(Fl 1 [])])
def zw77:List AV:=[.nils,(Fl 1 []),zv72,(u 5),(i 0),(i 0),(q 65536),(Fl 1 []),zv73,zv74,zv75,zv76]
def zv78:AV:=(.arr 1 21 4376 0 24)
def zw79:List AV:=[F,F,(i 4),T,(i 4),(i 5),(G zw11),(G zw77),(Fl 1 zw52),(i 4),(.ro [(i 24)]),(i 24),(p 1 20 4375 8),zv73,(i 24),zv78,(p 1 18 4371 0),(p 1 18 4371 1),(p 1 20 4375 9),zv74,(i 24),(q 24),(q 16777240),(p 1 19 4372 0)]
def zv80:AV:=(.grow 2 1 18 3601 1)
def zv81:AV:=(.arr 1 21 3606 0 24)
def zw82:List AV:=[(p 1 19 4372 2),(i 4),F,(p 1 20 3605 8),zv80,(p 1 18 3601 0),(p 1 18 3601 1),zv81,(p 1 21 3606 8),(i 4),T,(p 1 20 4375 8),zv73,(p 1 18 4371 0),(p 1 18 4371 1),zv78,(p 1 21 4376 16),(i 4),F,e,e,e,e,e]
def zw83:List AV:=[e,zv56,(G zw77),zv56,.nils,(i 12),(i 12),F,e,e,e,e,e,e,e,e,e,e,e,e,e,e,e,e]
def zr84:List AV:=zw68++(zw13++(zw21++(zw79++(zw82++(zw83++(zw0++(zw0++(zw0++(zw0++([e,e,e]))))))))))
def zb85:List Blk:=[⟨956,zw19⟩,⟨965,zw27⟩,⟨966,zw25⟩,⟨967,[(q 16777216),.nils]⟩,⟨968,zw20⟩,⟨971,zw19⟩,⟨4359,zw11⟩,⟨4360,zw77⟩]
def zw86:List AV:=[(u 0),(u 0),(u 0),(u 0),(u 0),(u 0),(u 0),(u 0),(u 0),(u 0),(u 0),(u 0),(u 0),(u 0),(u 0),(u 0),(u 8),(u 0),(u 0),(u 0),(u 0),(u 0),(u 0),(u 0)]
def zb87:List Blk:=[⟨4369,zw27⟩,⟨4370,zw25⟩,⟨4371,[(q 16777216),zv78]⟩,⟨4372,zw10⟩,⟨4375,zw77⟩,⟨4376,zw86⟩]
def zb88:List Blk:=zb26++(zb85++(zb87))
def zm89:Mem:=⟨[[]],zb88,5129,[[4374,4373,4368,3604,3603,3598,2836,2835,2830,2144,2143,2138,1453,1452,1447,970,969,964]],0⟩
def zw92:List AV:=[F,(p 1 6 6 0),.nils,(i 8),.nils,(i 2),.nils,(i 2),(p 1 13 971 0),.nils,(i 0),(i 6),(p 1 20 5145 0),(i 24),.nils,(i 12),e,e,e,e,e,e,e,e]
def zv93:AV:=(L 2 5136 [(G [(i 0),(q 0)])])
def zv94:AV:=(L 2 5137 [(G [(i 0),(q 0)])])
def zw95:List AV:=[(.str [109]),(i 0),zv5,(Fl 2 []),(L 4 5135 [(G zw6)]),zv93,zv94]
def zv96:AV:=(L 7 5138 [(G zw95)])
def zv97:AV:=(.grow 2 1 18 5141 1)
def zv98:AV:=(.grow 6 1 19 5142 1)
def zv99:AV:=(L 1 5143 [(Fl 1 [])])
def zv100:AV:=(L 1 5144 [(Fl 1 [])])
def zw101:List AV:=[.nils,(Fl 1 []),zv96,(u 5),(i 0),(i 0),(q 65536),(Fl 1 []),zv97,zv98,zv99,zv100]
def zv102:AV:=(.arr 1 21 5146 0 24)
def zw103:List AV:=[F,F,(i 5),T,(i 5),(i 6),(G zw11),(G zw101),(Fl 1 zw52),(i 5),(.ro [(i 24)]),(i 24),(p 1 20 5145 8),zv97,(i 24),zv102,(p 1 18 5141 0),(p 1 18 5141 1),(p 1 20 5145 9),zv98,(i 24),(q 24),(q 16777240),(p 1 19 5142 0)]
def zw104:List AV:=[(p 1 19 5142 2),(i 5),F,(p 1 20 3605 8),zv80,(p 1 18 3601 0),(p 1 18 3601 1),zv81,(p 1 21 3606 8),(i 5),F,(p 1 20 4375 8),zv73,(p 1 18 4371 0),(p 1 18 4371 1),zv78,(p 1 21 4376 16),(i 5),T,(p 1 20 5145 8),zv97,(p 1 18 5141 0),(p 1 18 5141 1),zv102]
def zw105:List AV:=[(p 1 21 5146 1),zv56,(G zw101),zv56,.nils,(i 12),(i 12),F,e,e,e,e,e,e,e,e,e,e,e,e,e,e,e,e]
def zr106:List AV:=zw92++(zw13++(zw21++(zw103++(zw104++(zw105++(zw0++(zw0++(zw0++(zw0++([e,e,e]))))))))))
def zb107:List Blk:=[⟨956,zw19⟩,⟨965,zw27⟩,⟨966,zw25⟩,⟨967,[(q 16777216),.nils]⟩,⟨968,zw20⟩,⟨971,zw19⟩,⟨5129,zw11⟩,⟨5130,zw101⟩]
def zw108:List AV:=[(u 0),(u 1),(u 0),(u 0),(u 0),(u 0),(u 0),(u 0),(u 0),(u 0),(u 0),(u 0),(u 0),(u 0),(u 0),(u 0),(u 0),(u 0),(u 0),(u 0),(u 0),(u 0),(u 0),(u 0)]
def zb109:List Blk:=[⟨5139,zw27⟩,⟨5140,zw25⟩,⟨5141,[(q 16777216),zv102]⟩,⟨5142,zw10⟩,⟨5145,zw101⟩,⟨5146,zw108⟩]
def zb110:List Blk:=zb26++(zb107++(zb109))
def zm111:Mem:=⟨[[]],zb110,5897,[[5144,5143,5138,4374,4373,4368,3604,3603,3598,2836,2835,2830,2144,2143,2138,1453,1452,1447,970,969,964]],0⟩
def zm114:Mem:=⟨[[]],zb29,5897,[[5144,5143,5138,4374,4373,4368,3604,3603,3598,2836,2835,2830,2144,2143,2138,1453,1452,1447,970,969,964]],0⟩
def zw115:List AV:=[F,F,(i 6),F,(i 5),(i 6),(G zw11),(G zw101),(Fl 1 zw52),(i 5),(.ro [(i 24)]),(i 24),(p 1 20 5145 8),zv97,(i 24),zv102,(p 1 18 5141 0),(p 1 18 5141 1),(p 1 20 5145 9),zv98,(i 24),(q 24),(q 16777240),(p 1 19 5142 0)]
def zr116:List AV:=zw92++(zw13++(zw21++(zw115++(zw104++(zw105++(zw0++(zw0++(zw0++(zw0++([e,e,e]))))))))))
def zc127:ACode:=sR zc34
def zw128:List AV:=[T,(p 1 6 6 0),.nils,(i 8),.nils,(i 2),.nils,(i 2),(p 1 13 971 0),.nils,(i 0),(i 6),(p 1 20 5145 0),(i 24),.nils,(i 12),(i 0),(i 0),(i 6),(i 0),(i 0),(i 8),(i 0),(i 6)]
def zw129:List AV:=[(i 1),(i 0),(q 0),(i 8),(q 0),(i 16),(q 0),(i 16),(q 0),(i 16),(q 0),(i 0),(G zw11),(.tup [.nils,(i 8)]),(G zw12),(.tup [.nils,(i 8)]),.nils,(i 8),(.tup [.nils,(i 2)]),(G zw11),(.tup [.nils,(i 2)]),.nils,(i 2),(.tup [.nils,(i 2)])]
def zv130:AV:=(.tup [(i 0),(i 0),(i 6)])
def zv131:AV:=(.tup [(i 0),(i 0),(i 8)])
def zv132:AV:=(G [.nils,.nils,.nils])
def zw133:List AV:=[(p 1 21 5146 1),zv56,(G zw101),zv56,.nils,(i 12),(i 12),F,zv130,(p 1 6 6 0),(G zw24),zv130,(i 0),(i 0),(i 6),zv131,zv132,zv131,(i 0),(i 0),(i 8),(.tup [(i 0),(i 6)]),(.tup [(i 0),(i 6)]),(i 0)]
def zw134:List AV:=[(q 8),(i 0),(i 0),(q 0),(i 0),(q 0),(q 0),(q 0)]
def zw135:List AV:=[(q 16),(i 0),(i 0),(q 0),(i 0),(q 0),(q 0),(q 0)]
def zw136:List AV:=[(G zw134),(G zw135)]
def zw137:List AV:=[(q 0),(i 0),(i 0),(q 0),(i 0),(q 0),(q 0),(q 0)]
def zv138:AV:=(.tup [(q 0),(i 16)])
def zw139:List AV:=[(q 0),(i 1),(i 0),(q 0),(i 0),(q 0),(q 0),(q 0)]
def zw140:List AV:=[(i 6),(.tup [(i 1),(i 0)]),(G zw134),(G zw135),(Fl 8 zw136),(.tup [(i 1),(i 0)]),(i 1),(i 0),(.tup [(q 0),(i 8)]),zv132,(G zw137),(.tup [(q 0),(i 8)]),(q 0),(i 8),zv138,(p 1 6 6 0),(G zw24),(G zw139),zv138,(q 0),(i 16),zv138,(p 1 6 6 0),(G zw24)]
def zw141:List AV:=[(q 0),(i 0),(i 1),(q 0),(i 0),(q 0),(q 0),(q 0)]
def zw142:List AV:=[(q 0),zv5,zv5,(q 0),(i 0),(q 0),(q 0),(q 0)]
def zw143:List AV:=[(G zw141),zv138,(q 0),(i 16),zv138,(p 1 6 6 0),(G zw24),(G zw142),zv138,(q 0),(i 16),(.tup [(q 0),(i 0)]),(p 1 6 6 0),(G zw24),(G zw137),(.tup [(q 0),(i 0)]),(q 0),(i 0),T,T,(i 8),T,T,T]
def zw144:List AV:=[(i 2),T,T,T,(i 2),T,T,T,(i 6),T,T,T,(i 8),T,T,T,(i 6),T,T,T,(i 0),T,T,T]
def zw145:List AV:=[(i 1),T,T,T,(i 8),T,T,T,(i 16),T,T,T,(i 16),T,T,T,(i 16),T,T,T,(i 0),T,T,T]
def zr146:List AV:=zw128++(zw129++(zw21++(zw115++(zw104++(zw133++(zw140++(zw143++(zw144++(zw145++([(q 0),T,T]))))))))))
def zm147:Mem:=⟨[[]],zb29,7145,[[5144,5143,5138,4374,4373,4368,3604,3603,3598,2836,2835,2830,2144,2143,2138,1453,1452,1447,970,969,964]],0⟩
def zm153:Mem:=⟨[],[],7145,[],0⟩
theorem zk31:K 10000 243 (spT 10 zc3) zr1 zm2=some (0,zr23,zm30):=by kernel_rfl
theorem zk38:K 10000 243 (spT 1 zc35) zr23 zm30=some (0,zr37,zm30):=by kernel_rfl
theorem zk66:KR 10000 243 (sL zc41) false 14 3 zr37 zm30=some (0,zr58,zm65):=by kernel_rfl
theorem zk90:KR 10000 243 (sL zc41) false 14 2 zr58 zm65=some (0,zr84,zm89):=by kernel_rfl
theorem zk112:KR 10000 243 (sL zc41) false 14 1 zr84 zm89=some (0,zr106,zm111):=by kernel_rfl
theorem zk117:K 10000 243 (sL (sL zc41)) zr106 zm114=some (2,zr116,zm114):=by kernel_rfl
theorem zk148:K 10000 243 zc127 zr116 zm114=some (1,zr146,zm147):=by kernel_rfl
theorem zl32:zr1.length=243:=by kernel_rfl
theorem zp33:E 10000 243 (spT 10 zc3) zr1 zm2=some (outOf 0,⟨zr23,zm30⟩):=W3 (Nat.le_of_ble_eq_true rfl) zl32 zk31
theorem zl39:zr23.length=243:=by kernel_rfl
theorem zp40:E 10000 243 (spT 1 zc35) zr23 zm30=some (outOf 0,⟨zr37,zm30⟩):=W3 (Nat.le_of_ble_eq_true rfl) zl39 zk38
theorem zl67:zr37.length=243:=by kernel_rfl
theorem zl91:zr58.length=243:=by kernel_rfl
theorem zl113:zr84.length=243:=by kernel_rfl
theorem zl118:zr106.length=243:=by kernel_rfl
theorem zp119:E 10000 243 (sL (sL zc41)) zr106 zm114=some (outOf 2,⟨zr116,zm114⟩):=W3 (Nat.le_of_ble_eq_true rfl) zl118 zk117
theorem zp120:LI 10000 243 14 (sL zc41) [1,3,5,7,11] 9994 zr106 zm111=some (outOf 2,⟨zr116,zm114⟩):=z0K (k:=9993) (outOf 2) rfl rfl (Nat.le_of_ble_eq_true rfl) zl118 (by kernel_rfl) zp119
theorem zp121:LI 10000 243 14 (sL zc41) [1,3,5,7,11] 9995 zr84 zm89=some (outOf 2,⟨zr116,zm114⟩):=W6 (k:=9994) 1 false (Nat.le_of_ble_eq_true rfl) zl113 rfl rfl zk112 zp120
theorem zp122:LI 10000 243 14 (sL zc41) [1,3,5,7,11] 9997 zr58 zm65=some (outOf 2,⟨zr116,zm114⟩):=W6 (k:=9995) 2 false (Nat.le_of_ble_eq_true rfl) zl91 rfl rfl zk90 zp121
theorem zp123:LI 10000 243 14 (sL zc41) [1,3,5,7,11] 10000 zr37 zm30=some (outOf 2,⟨zr116,zm114⟩):=W6 (k:=9997) 3 false (Nat.le_of_ble_eq_true rfl) zl67 rfl rfl zk66 zp122
theorem zp124:E 10000 243 (sL zc41) zr37 zm30=some (outOf 2,⟨zr116,zm114⟩):=z0U (nb:=14) (live:=[1,3,5,7,11]) (by kernel_rfl) (by kernel_rfl) zp123
theorem zp125:E 10000 243 zc41 zr37 zm30=some (outOf 0,⟨zr116,zm114⟩):=z0q (i:=0) (by kernel_rfl) zp124
theorem zp126:E 10000 243 zc35 zr23 zm30=some (outOf 0,⟨zr116,zm114⟩):=QG 1 _ zp40 zp125
theorem zl149:zr116.length=243:=by kernel_rfl
theorem zp150:E 10000 243 zc127 zr116 zm114=some (outOf 1,⟨zr146,zm147⟩):=W3 (Nat.le_of_ble_eq_true rfl) zl149 zk148
theorem zp151:E 10000 243 zc34 zr23 zm30=some (outOf 1,⟨zr146,zm147⟩):=z0I (by kernel_rfl) zp126 zp150
theorem zp152:E 10000 243 zc3 zr1 zm2=some (outOf 1,⟨zr146,zm147⟩):=QG 10 _ zp33 zp151
theorem zf154:C 10001 zd [] Mem.zero=some (T,zm153):=z1k (n:=10000) 1 (Nat.le_of_ble_eq_true rfl) xN (by kernel_rfl) (by kernel_rfl) (by kernel_rfl) zp152 (by kernel_rfl)
theorem top:C 10001 zd [] Mem.zero=some (.bool true,zm153):=zf154
end Go.Proofs.W
end
section
namespace Go.Proofs.W
open Go.Vs Go.Vs.U
set_option maxRecDepth 100000
theorem tabOk:TabOk Tryz.prog tab:=by
 intro f afn h
 unfold tab at h
 split at h
 ·exact tab1 (n:=xO) Tryz.func3 (by kernel_rfl) h
 ·exact tab1 (n:=vg) Tryz.func7 (by kernel_rfl) h
 ·exact tab1 (n:=ZX) Tryz.func8 (by kernel_rfl) h
 ·exact tab1 (n:=uF) Tryz.func9 (by kernel_rfl) h
 ·exact tab1 (n:=Vo) Tryz.func10 (by kernel_rfl) h
 ·exact tab1 (n:=Q0) Tryz.func11 (by kernel_rfl) h
 ·exact tab1 (n:=Vn) Tryz.func12 (by kernel_rfl) h
 ·exact tab1 (n:=u9) Tryz.func13 (by kernel_rfl) h
 ·exact tab1 (n:=Wq) Tryz.func24 (by kernel_rfl) h
 ·exact tab1 (n:=qw) Tryz.func35 (by kernel_rfl) h
 ·exact tab1 (n:=uH) Tryz.func36 (by kernel_rfl) h
 ·exact tab1 (n:=uG) Tryz.func37 (by kernel_rfl) h
 ·exact tab1 (n:=u7) Tryz.func38 (by kernel_rfl) h
 ·exact tab1 (n:=Wk) Tryz.func39 (by kernel_rfl) h
 ·exact tab1 (n:=Yb) Tryz.func40 (by kernel_rfl) h
 ·exact tab1 (n:=Vp) Tryz.func41 (by kernel_rfl) h
 ·exact tab1 (n:=uE) Tryz.func42 (by kernel_rfl) h
 ·exact tab1 (n:=Y6) Tryz.func48 (by kernel_rfl) h
 ·exact tab1 (n:=kF) Tryz.func51 (by kernel_rfl) h
 ·exact tab1 (n:=kL) Tryz.func55 (by kernel_rfl) h
 ·exact tab1 (n:=jU) Tryz.func58 (by kernel_rfl) h
 ·exact tab1 (n:=Yn) Tryz.func60 (by kernel_rfl) h
 ·exact tab1 (n:=Yl) Tryz.func61 (by kernel_rfl) h
 ·exact tab1 (n:=tp) Tryz.func70 (by kernel_rfl) h
 ·exact tab1 (n:=to) Tryz.func71 (by kernel_rfl) h
 ·exact tab1 (n:=Vm) Tryz.func72 (by kernel_rfl) h
 ·exact tab1 (n:=uI) Tryz.func73 (by kernel_rfl) h
 ·exact tab1 (n:=kD) Tryz.func74 (by kernel_rfl) h
 ·exact tab1 (n:=Y1) Tryz.func75 (by kernel_rfl) h
 ·exact tab1 (n:=Y0) Tryz.func76 (by kernel_rfl) h
 ·exact tab1 (n:=UL) Tryz.func79 (by kernel_rfl) h
 ·exact tab1 (n:=kz) Tryz.func80 (by kernel_rfl) h
 ·exact tab1 (n:=jQ) Tryz.func81 (by kernel_rfl) h
 ·exact tab1 (n:=tW) Tryz.func82 (by kernel_rfl) h
 ·exact tab1 (n:=Y4) Tryz.func83 (by kernel_rfl) h
 ·exact tab1 (n:=Yo) Tryz.func84 (by kernel_rfl) h
 ·exact tab1 (n:=Wj) Tryz.func85 (by kernel_rfl) h
 ·exact tab1 (n:=uK) Tryz.func86 (by kernel_rfl) h
 ·exact tab1 (n:=uc) Tryz.func87 (by kernel_rfl) h
 ·exact tab1 (n:=tq) Tryz.func88 (by kernel_rfl) h
 ·exact tab1 (n:=vi) Tryz.func89 (by kernel_rfl) h
 ·exact tab1 (n:=VA) Tryz.func94 (by kernel_rfl) h
 ·exact tab1 (n:=Ym) Tryz.func99 (by kernel_rfl) h
 ·exact tab1 (n:=Wm) Tryz.func101 (by kernel_rfl) h
 ·exact tab1 (n:=Wn) Tryz.func103 (by kernel_rfl) h
 ·exact tab1 (n:=tU) Tryz.func104 (by kernel_rfl) h
 ·exact tab1 (n:=qV) Tryz.func105 (by kernel_rfl) h
 ·exact tab1 (n:=ZY) Tryz.func106 (by kernel_rfl) h
 ·exact tab1 (n:=Vk) Tryz.func107 (by kernel_rfl) h
 ·exact tab1 (n:=We) Tryz.func108 (by kernel_rfl) h
 ·exact tab1 (n:=Vj) Tryz.func109 (by kernel_rfl) h
 ·exact tab1 (n:=Y3) Tryz.func110 (by kernel_rfl) h
 ·exact tab1 (n:=Y5) Tryz.func111 (by kernel_rfl) h
 ·exact tab1 (n:=qW) Tryz.func112 (by kernel_rfl) h
 ·exact tab1 (n:=Y9) Tryz.func113 (by kernel_rfl) h
 ·exact tab1 (n:=Y7) Tryz.func114 (by kernel_rfl) h
 ·exact tab1 (n:=qZ) Tryz.func115 (by kernel_rfl) h
 ·exact tab1 (n:=ud) Tryz.func116 (by kernel_rfl) h
 ·exact tab1 (n:=Vl) Tryz.func117 (by kernel_rfl) h
 ·exact tab1 (n:=ZW) Tryz.func118 (by kernel_rfl) h
 ·exact tab1 (n:=Wf) Tryz.func119 (by kernel_rfl) h
 ·exact tab1 (n:=jP) Tryz.func120 (by kernel_rfl) h
 ·exact tab1 (n:=Yk) Tryz.func127 (by kernel_rfl) h
 ·exact tab1 (n:=Yj) Tryz.func128 (by kernel_rfl) h
 ·exact tab1 (n:=tZ) Tryz.func129 (by kernel_rfl) h
 ·exact tab1 (n:=Yi) Tryz.func130 (by kernel_rfl) h
 ·exact tab1 (n:=tX) Tryz.func131 (by kernel_rfl) h
 ·exact tab1 (n:=Yh) Tryz.func132 (by kernel_rfl) h
 ·exact tab1 (n:=uJ) Tryz.func133 (by kernel_rfl) h
 ·exact tab1 (n:=Yg) Tryz.func134 (by kernel_rfl) h
 ·exact tab1 (n:=tY) Tryz.func135 (by kernel_rfl) h
 ·exact tab1 (n:=Yf) Tryz.func136 (by kernel_rfl) h
 ·exact tab1 (n:=tt) Tryz.func137 (by kernel_rfl) h
 ·exact tab1 (n:=Ye) Tryz.func138 (by kernel_rfl) h
 ·exact tab1 (n:=Wr) Tryz.func144 (by kernel_rfl) h
 ·exact tab1 (n:=yM) Tryz.func145 (by kernel_rfl) h
 ·exact tab1 (n:=qY) Tryz.func150 (by kernel_rfl) h
 ·exact tab1 (n:=kH) Tryz.func151 (by kernel_rfl) h
 ·exact tab1 (n:=tV) Tryz.func152 (by kernel_rfl) h
 ·exact tab1 (n:=Wi) Tryz.func153 (by kernel_rfl) h
 ·exact tab1 (n:=kJ) Tryz.func154 (by kernel_rfl) h
 ·exact tab1 (n:=kG) Tryz.func155 (by kernel_rfl) h
 ·exact tab1 (n:=Y8) Tryz.func156 (by kernel_rfl) h
 ·exact tab1 (n:=Ya) Tryz.func157 (by kernel_rfl) h
 ·exact tab1 (n:=Vw) Tryz.func158 (by kernel_rfl) h
 ·exact tab1 (n:=ZV) Tryz.func159 (by kernel_rfl) h
 ·exact tab1 (n:=Vt) Tryz.func160 (by kernel_rfl) h
 ·exact tab1 (n:=kE) Tryz.func161 (by kernel_rfl) h
 ·exact tab1 (n:=jT) Tryz.func165 (by kernel_rfl) h
 ·exact tab1 (n:=Vx) Tryz.func166 (by kernel_rfl) h
 ·exact tab1 (n:=vD) Tryz.func167 (by kernel_rfl) h
 ·exact tab1 (n:=j0) Tryz.func168 (by kernel_rfl) h
 ·exact tab1 (n:=Wl) Tryz.func169 (by kernel_rfl) h
 ·exact tab1 (n:=qz) Tryz.func170 (by kernel_rfl) h
 ·exact tab1 (n:=kN) Tryz.func173 (by kernel_rfl) h
 ·exact tab1 (n:=uh) Tryz.func174 (by kernel_rfl) h
 ·exact tab1 (n:=vE) Tryz.func175 (by kernel_rfl) h
 ·exact tab1 (n:=xW) Tryz.func176 (by kernel_rfl) h
 ·exact tab1 (n:=Wo) Tryz.func177 (by kernel_rfl) h
 ·exact tab1 (n:=Vv) Tryz.func178 (by kernel_rfl) h
 ·exact tab1 (n:=ZZ) Tryz.func179 (by kernel_rfl) h
 ·exact tab1 (n:=qX) Tryz.func194 (by kernel_rfl) h
 ·exact tab1 (n:=Wg) Tryz.func195 (by kernel_rfl) h
 ·exact tab1 (n:=kK) Tryz.func196 (by kernel_rfl) h
 ·exact tab1 (n:=Wh) Tryz.func197 (by kernel_rfl) h
 ·exact tab1 (n:=zG) Tryz.func198 (by kernel_rfl) h
 ·exact tab1 (n:=jS) Tryz.func199 (by kernel_rfl) h
 ·exact tab1 (n:=Y2) Tryz.func200 (by kernel_rfl) h
 ·exact tab1 (n:=Vq) Tryz.func201 (by kernel_rfl) h
 ·exact tab1 (n:=Vr) Tryz.func202 (by kernel_rfl) h
 ·exact tab1 (n:=Vu) Tryz.func203 (by kernel_rfl) h
 ·exact tab1 (n:=UM) Tryz.func204 (by kernel_rfl) h
 ·exact tab1 (n:=kM) Tryz.func206 (by kernel_rfl) h
 ·exact tab1 (n:=y4) Tryz.func207 (by kernel_rfl) h
 ·exact tab1 (n:=tr) Tryz.func208 (by kernel_rfl) h
 ·exact tab1 (n:=Wp) Tryz.func209 (by kernel_rfl) h
 ·exact tab1 (n:=Yc) Tryz.func210 (by kernel_rfl) h
 ·exact tab1 (n:=j1) Tryz.func211 (by kernel_rfl) h
 ·exact tab1 (n:=xT) Tryz.func212 (by kernel_rfl) h
 ·exact tab1 (n:=kR) Tryz.func213 (by kernel_rfl) h
 ·exact tab1 (n:=ue) Tryz.func214 (by kernel_rfl) h
 ·exact tab1 (n:=ug) Tryz.func215 (by kernel_rfl) h
 ·exact tab1 (n:=xV) Tryz.func216 (by kernel_rfl) h
 ·exact tab1 (n:=yX) Tryz.func217 (by kernel_rfl) h
 ·exact tab1 (n:=xx) Tryz.func218 (by kernel_rfl) h
 ·exact tab1 (n:=tu) Tryz.func219 (by kernel_rfl) h
 ·exact tab1 (n:=xU) Tryz.func220 (by kernel_rfl) h
 ·exact tab1 (n:=vj) Tryz.func221 (by kernel_rfl) h
 ·exact tab1 (n:=ui) Tryz.func222 (by kernel_rfl) h
 ·exact tab1 (n:=vF) Tryz.func223 (by kernel_rfl) h
 ·exact tab1 (n:=uf) Tryz.func224 (by kernel_rfl) h
 ·exact tab1 (n:=Vz) Tryz.func225 (by kernel_rfl) h
 ·exact tab1 (n:=vC) Tryz.func226 (by kernel_rfl) h
 ·exact tab1 (n:=vG) Tryz.func227 (by kernel_rfl) h
 ·exact tab1 (n:=Vy) Tryz.func228 (by kernel_rfl) h
 ·exact tab1 (n:=kP) Tryz.func229 (by kernel_rfl) h
 ·exact tab1 (n:=kI) Tryz.func236 (by kernel_rfl) h
 ·exact tab1 (n:=zP) Tryz.func237 (by kernel_rfl) h
 ·exact tab1 (n:=yz) Tryz.func238 (by kernel_rfl) h
 ·exact tab1 (n:=Yd) Tryz.func239 (by kernel_rfl) h
 ·exact tab1 (n:=xw) Tryz.func240 (by kernel_rfl) h
 ·exact tab1 (n:=yW) Tryz.func241 (by kernel_rfl) h
 ·exact tab1 (n:=xX) Tryz.func242 (by kernel_rfl) h
 ·exact tab1 (n:=ub) Tryz.func243 (by kernel_rfl) h
 ·exact tab1 (n:=ua) Tryz.func247 (by kernel_rfl) h
 ·exact tab1 (n:=xS) Tryz.func248 (by kernel_rfl) h
 ·exact tab1 (n:=xv) Tryz.func249 (by kernel_rfl) h
 ·exact tab1 (n:=xi) Tryz.func250 (by kernel_rfl) h
 ·exact tab1 (n:=jR) Tryz.func251 (by kernel_rfl) h
 ·exact tab1 (n:=yp) Tryz.func252 (by kernel_rfl) h
 ·exact tab1 (n:=xd) Tryz.func253 (by kernel_rfl) h
 ·exact tab1 (n:=yq) Tryz.func254 (by kernel_rfl) h
 ·exact tab1 (n:=yH) Tryz.func255 (by kernel_rfl) h
 ·exact tab1 (n:=yy) Tryz.func256 (by kernel_rfl) h
 ·exact tab1 (n:=zM) Tryz.func257 (by kernel_rfl) h
 ·exact tab1 (n:=kQ) Tryz.func258 (by kernel_rfl) h
 ·exact tab1 (n:=y9) Tryz.func259 (by kernel_rfl) h
 ·exact tab1 (n:=yV) Tryz.func260 (by kernel_rfl) h
 ·exact tab1 (n:=qy) Tryz.func261 (by kernel_rfl) h
 ·exact tab1 (n:=qx) Tryz.func262 (by kernel_rfl) h
 ·exact tab1 (n:=xb) Tryz.func263 (by kernel_rfl) h
 ·exact tab1 (n:=vh) Tryz.func264 (by kernel_rfl) h
 ·exact tab1 (n:=vB) Tryz.func265 (by kernel_rfl) h
 ·exact tab1 (n:=ya) Tryz.func266 (by kernel_rfl) h
 ·exact tab1 (n:=xu) Tryz.func267 (by kernel_rfl) h
 ·exact tab1 (n:=jV) Tryz.func268 (by kernel_rfl) h
 ·exact tab1 (n:=xr) Tryz.func269 (by kernel_rfl) h
 ·cases h
end Go.Proofs.W
end
