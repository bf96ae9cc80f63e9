/-
  LocalsNames holds: its law function, which has no arguments, returns true. The kernel reckons it.
-/
import Derived.Test.YtbgppcjifcladaaGreatV3
import Derived.Test.YtbgppcjifcladaaGreatV4
import Derived.KernelRfl
import Derived.Test.YtbgppcjifcladaaGreatRows
set_option maxHeartbeats 64000000
set_option linter.unusedVariables false
set_option linter.unusedSimpArgs false
section
namespace Go.Proofs.W
open Go.Vs Go.Vs.Sn
set_option maxRecDepth 1000000
noncomputable abbrev E (lv N:Nat) (c:ACode) (ρ:List AV) (m:Mem):=ev (callG (reTab tab) gmask lv) lv (relive N c) ⟨ρ,m⟩
noncomputable abbrev K (lv N:Nat) (c:ACode) (ρ:List AV) (m:Mem):=kSnap N ((kC N c).run (kOraG tab gmask lv) lv (kArgs ρ 0 kNil) m)
noncomputable abbrev KR (lv N:Nat) (c:ACode) (keep:Bool) (nb j:Nat) (ρ:List AV) (m:Mem):=kSnap N (kRnds N (fun τ m=>(kC N (sL c)).run (kOraG tab gmask lv) lv τ m) keep nb j (kArgs ρ 0 kNil) m)
noncomputable abbrev C (lv f:Nat) (xs:List AV) (m:Mem):=(callG (reTab tab) gmask lv).call (some f) xs m
def zw0:List AV:=[e,e,e,e,e,e,e,e,e,e,e,e,e,e,e,e,e,e,e,e,e,e,e,e]
def zw1:List AV:=[e,e,e,e,e,e,e,e,e,e,e,e,e,e,e,e,e,e,e,e,e,e]
def zr2:List AV:=zw0++(zw0++(zw0++(zw0++(zw0++(zw0++(zw0++(zw0++(zw0++(zw1)))))))))
def zm3:Mem:=⟨[[]],[],0,[[]],0⟩
def zc4:ACode:=zo.body
def zw5:List AV:=[F,(p 1 8 8 0),(p 1 9 9 0),(p 1 10 24 0),(i 8),(p 1 11 1106 0),(i 2),e,e,e,e,e,e,e,e,e,e,e,e,e,e,e,e,e]
def zw6:List AV:=[(u 2),(i 0),(i 0),.nils]
def zw7:List AV:=[(u 4),(i 0),(i 0),.nils]
def zv8:AV:=(Fl 4 [(G zw6),(G zw7)])
def zv9:AV:=(.int .i64 (.negSucc 0))
def zv10:AV:=(G [(.str [112]),(i 1)])
def zw11:List AV:=[(u 15),(i 0),(i 0),(i 0)]
def zw12:List AV:=[(u 31),(i 0),(i 0),(i 0)]
def zw13:List AV:=[(u 34),zv9,(i 0),(i 0)]
def zw14:List AV:=[(G zw11),(G zw12),(G zw13)]
def zv15:AV:=(Fl 2 [(G [(i 0),(q 0)])])
def zw16:List AV:=[(G [(i 0),(q 0)]),(G [(i 1),(q 1)]),(G [(i 2),(q 0)])]
def zw17:List AV:=[(.str [109]),(i 0),zv9,(Fl 2 [zv10]),(Fl 4 zw14),zv15,(Fl 2 zw16)]
def zw18:List AV:=[(u 5),(u 0),(u 0),(u 0),(u 0),(u 0),(u 0),(u 0)]
def zw19:List AV:=[(q 16777216),(.arr 1 5 5 0 32)]
def zw20:List AV:=[(u 1),(q 257),(q 16777248),(q 0),(q 0),(i 0)]
def zw21:List AV:=[zv8,.nils,(Fl 7 [(G zw17)]),(u 5),(i 0),(i 0),(q 65536),(Fl 1 zw18),(Fl 2 [(G zw19)]),(Fl 6 [(G zw20)]),(.arr 1 6 6 0 1),(.arr 1 7 7 0 1)]
def zw22:List AV:=[(q 16777216),(i 0),(i 1),(q 257),(i 32),(q 0),(q 0),(q 0)]
def zw23:List AV:=[(u 0),(i 0),(.str []),.nils,F]
def zv24:AV:=(.tup [(G zw23),(i 8)])
def zw25:List AV:=[.nils,.nils,.nils,(u 0),(i 0),(i 0),(q 0),.nils,.nils,.nils,.nils,.nils]
def zv26:AV:=(.tup [(G zw23),(i 2)])
def zw27:List AV:=[e,e,e,e,e,e,e,e,(G zw21),(G zw22),zv24,(G zw25),zv24,(G zw23),(i 8),zv26,(G zw21),zv26,(G zw23),(i 2),e,e,e,e]
def zr28:List AV:=zw5++(zw27++(zw0++(zw0++(zw0++(zw0++(zw0++(zw0++(zw0++(zw1)))))))))
def zw29:List AV:=[zv8,.nils,(Fl 7 [(G zw17)])]
def zw30:List AV:=[(u 0),(u 0),(u 0),(u 0),(u 0),(u 0),(u 0),(u 0),(u 0),(u 0),(u 0),(u 0),(u 0),(u 0),(u 0),(u 0),(u 0),(u 0),(u 0),(u 0),(u 0),(u 0),(u 0),(u 0)]
def zw31:List AV:=[(u 0),(u 0),(u 1),(u 0),(u 0),(u 0),(u 0),(u 0)]
def zw32:List AV:=zw30++(zw31)
def zb33:List Blk:=[⟨0,zw21⟩,⟨1,zw17⟩,⟨2,zw29⟩,⟨3,zw20⟩,⟨4,zw21⟩,⟨5,zw32⟩,⟨6,[.nils]⟩,⟨7,[.nils]⟩]
def zb34:List Blk:=[⟨8,zw21⟩,⟨9,zw22⟩,⟨24,zw23⟩,⟨1106,zw23⟩]
def zb35:List Blk:=zb33++(zb34)
def zm36:Mem:=⟨[[]],zb35,1107,[[]],0⟩
def zc40:ACode:=spD 5 zc4
def zw41:List AV:=[F,(p 1 8 8 0),(p 1 9 9 0),(p 1 10 24 0),(i 8),(p 1 11 1106 0),(i 2),(p 1 12 2188 0),(i 2),e,e,e,e,e,e,e,e,e,e,e,e,e,e,e]
def zw42:List AV:=[e,e,e,e,e,e,e,e,(G zw21),(G zw22),zv24,(G zw25),zv24,(G zw23),(i 8),zv26,(G zw21),zv26,(G zw23),(i 2),zv26,(G zw21),zv26,(G zw23)]
def zw43:List AV:=[(i 2),e,e,e,e,e,e,e,e,e,e,e,e,e,e,e,e,e,e,e,e,e,e,e]
def zr44:List AV:=zw41++(zw42++(zw43++(zw0++(zw0++(zw0++(zw0++(zw0++(zw0++(zw1)))))))))
def zb45:List Blk:=[⟨8,zw21⟩,⟨9,zw22⟩,⟨24,zw23⟩,⟨1106,zw23⟩,⟨2188,zw23⟩]
def zb46:List Blk:=zb33++(zb45)
def zm47:Mem:=⟨[[]],zb46,2189,[[]],0⟩
def zc51:ACode:=spD 1 zc40
def zw52:List AV:=[F,(p 1 8 8 0),(p 1 9 9 0),(p 1 10 24 0),(i 8),(p 1 11 1106 0),(i 2),(p 1 12 2188 0),(i 2),(p 1 13 3289 0),(i 2),e,e,e,e,e,e,e,e,e,e,e,e,e]
def zw53:List AV:=[(i 2),zv26,(G zw21),zv26,(G zw23),(i 2),e,e,e,e,e,e,e,e,e,e,e,e,e,e,e,e,e,e]
def zr54:List AV:=zw52++(zw42++(zw53++(zw0++(zw0++(zw0++(zw0++(zw0++(zw0++(zw1)))))))))
def zb55:List Blk:=[⟨8,zw21⟩,⟨9,zw22⟩,⟨24,zw23⟩,⟨1106,zw23⟩,⟨2188,zw23⟩,⟨3289,zw23⟩]
def zb56:List Blk:=zb33++(zb55)
def zm57:Mem:=⟨[[]],zb56,3290,[[]],0⟩
def zc61:ACode:=spD 1 zc51
def zw62:List AV:=[F,(p 1 8 8 0),(p 1 9 9 0),(p 1 10 24 0),(i 8),(p 1 11 1106 0),(i 2),(p 1 12 2188 0),(i 2),(p 1 13 3289 0),(i 2),(p 1 14 4474 0),(i 16),e,e,e,e,e,e,e,e,e,e,e]
def zv63:AV:=(.tup [(G zw23),(i 16)])
def zw64:List AV:=[(i 2),zv26,(G zw21),zv26,(G zw23),(i 2),zv63,(G zw21),zv63,(G zw23),(i 16),e,e,e,e,e,e,e,e,e,e,e,e,e]
def zr65:List AV:=zw62++(zw42++(zw64++(zw0++(zw0++(zw0++(zw0++(zw0++(zw0++(zw1)))))))))
def zb66:List Blk:=[⟨8,zw21⟩,⟨9,zw22⟩,⟨24,zw23⟩,⟨1106,zw23⟩,⟨2188,zw23⟩,⟨3289,zw23⟩,⟨4474,zw23⟩]
def zb67:List Blk:=zb33++(zb66)
def zm68:Mem:=⟨[[]],zb67,4475,[[]],0⟩
def zc72:ACode:=spD 1 zc61
def zw73:List AV:=[F,(p 1 8 8 0),(p 1 9 9 0),(p 1 10 24 0),(i 8),(p 1 11 1106 0),(i 2),(p 1 12 2188 0),(i 2),(p 1 13 3289 0),(i 2),(p 1 14 4474 0),(i 16),(p 1 15 5666 0),(i 0),.nils,(i 8),e,e,e,e,e,e,e]
def zw74:List AV:=[(u 2),(i 5),(.str []),.nils,F]
def zv75:AV:=(.tup [(G zw74),(i 0)])
def zw76:List AV:=[(i 2),zv26,(G zw21),zv26,(G zw23),(i 2),zv63,(G zw21),zv63,(G zw23),(i 16),zv75,(G zw21),zv75,(G zw74),(i 0),(.tup [.nils,(i 8)]),(G zw25),(G zw22),(.tup [.nils,(i 8)]),.nils,(i 8),e,e]
def zr77:List AV:=zw73++(zw42++(zw76++(zw0++(zw0++(zw0++(zw0++(zw0++(zw0++(zw1)))))))))
def zb78:List Blk:=[⟨8,zw21⟩,⟨9,zw22⟩,⟨24,zw23⟩,⟨1106,zw23⟩,⟨2188,zw23⟩,⟨3289,zw23⟩,⟨4474,zw23⟩,⟨5666,zw74⟩]
def zb79:List Blk:=zb33++(zb78)
def zm80:Mem:=⟨[[]],zb79,5681,[[]],0⟩
def zc84:ACode:=spD 2 zc72
def zw85:List AV:=[F,(p 1 8 8 0),(p 1 9 9 0),(p 1 10 24 0),(i 8),(p 1 11 1106 0),(i 2),(p 1 12 2188 0),(i 2),(p 1 13 3289 0),(i 2),(p 1 14 4474 0),(i 16),(p 1 15 5666 0),(i 0),.nils,(i 8),.nils,(i 2),e,e,e,e,e]
def zw86:List AV:=[(i 2),zv26,(G zw21),zv26,(G zw23),(i 2),zv63,(G zw21),zv63,(G zw23),(i 16),zv75,(G zw21),zv75,(G zw74),(i 0),(.tup [.nils,(i 8)]),(G zw25),(G zw22),(.tup [.nils,(i 8)]),.nils,(i 8),(.tup [.nils,(i 2)]),(G zw21)]
def zw87:List AV:=[(q 0),(i 1),(i 0),(q 0),(i 0),(q 0),(q 0),(q 0)]
def zw88:List AV:=[(G zw87),(.tup [.nils,(i 2)]),.nils,(i 2),e,e,e,e,e,e,e,e,e,e,e,e,e,e,e,e,e,e,e,e]
def zr89:List AV:=zw85++(zw42++(zw86++(zw88++(zw0++(zw0++(zw0++(zw0++(zw0++(zw1)))))))))
def zm90:Mem:=⟨[[]],zb79,6762,[[]],0⟩
def zc94:ACode:=spD 1 zc84
def zw95:List AV:=[F,(p 1 8 8 0),(p 1 9 9 0),(p 1 10 24 0),(i 8),(p 1 11 1106 0),(i 2),(p 1 12 2188 0),(i 2),(p 1 13 3289 0),(i 2),(p 1 14 4474 0),(i 16),(p 1 15 5666 0),(i 0),.nils,(i 8),.nils,(i 2),.nils,(i 16),e,e,e]
def zv96:AV:=(.tup [.nils,(i 16)])
def zw97:List AV:=[(G zw87),(.tup [.nils,(i 2)]),.nils,(i 2),zv96,(G zw21),(G zw87),zv96,.nils,(i 16),e,e,e,e,e,e,e,e,e,e,e,e,e,e]
def zr98:List AV:=zw95++(zw42++(zw86++(zw97++(zw0++(zw0++(zw0++(zw0++(zw0++(zw1)))))))))
def zm99:Mem:=⟨[[]],zb79,8066,[[]],0⟩
def zc103:ACode:=spD 1 zc94
def zw104:List AV:=[F,(p 1 8 8 0),(p 1 9 9 0),(p 1 10 24 0),(i 8),(p 1 11 1106 0),(i 2),(p 1 12 2188 0),(i 2),(p 1 13 3289 0),(i 2),(p 1 14 4474 0),(i 16),(p 1 15 5666 0),(i 0),.nils,(i 8),.nils,(i 2),.nils,(i 16),.nils,(i 0),e]
def zw105:List AV:=[(q 16777216),(i 0),(i 0),(q 0),(i 0),(q 0),(q 0),(q 0)]
def zw106:List AV:=[(G zw87),(.tup [.nils,(i 2)]),.nils,(i 2),zv96,(G zw21),(G zw87),zv96,.nils,(i 16),(.tup [.nils,(i 0)]),(G zw21),(G zw105),(.tup [.nils,(i 0)]),.nils,(i 0),e,e,e,e,e,e,e,e]
def zr107:List AV:=zw104++(zw42++(zw86++(zw106++(zw0++(zw0++(zw0++(zw0++(zw0++(zw1)))))))))
def zm108:Mem:=⟨[[]],zb79,9375,[[]],0⟩
def zc112:ACode:=spD 1 zc103
def zw113:List AV:=[F,(p 1 8 8 0),(p 1 9 9 0),(p 1 10 24 0),(i 8),(p 1 11 1106 0),(i 2),(p 1 12 2188 0),(i 2),(p 1 13 3289 0),(i 2),(p 1 14 4474 0),(i 16),(p 1 15 5666 0),(i 0),.nils,(i 8),.nils,(i 2),.nils,(i 16),.nils,(i 0),.nils]
def zw114:List AV:=[(i 16),(p 1 23 11081 0),e,e,e,e,e,e,(G zw21),(G zw22),zv24,(G zw25),zv24,(G zw23),(i 8),zv26,(G zw21),zv26,(G zw23),(i 2),zv26,(G zw21),zv26,(G zw23)]
def zw115:List AV:=[(q 16777232),(i 0),(i 1),(q 0),(i 0),(q 0),(q 0),(q 0)]
def zw116:List AV:=[(u 2),(i 0),(i 0),(Fl 2 [])]
def zw117:List AV:=[(u 4),(i 0),(i 0),(Fl 2 [])]
def zw118:List AV:=[(G zw116),(G zw117)]
def zv119:AV:=(L 2 11071 [(G [(i 0),(q 0)])])
def zw120:List AV:=[(.str [109]),(i 0),zv9,(L 2 11069 [zv10]),(L 4 11070 zw14),zv119,(L 2 11072 zw16)]
def zv121:AV:=(L 7 11073 [(G zw120)])
def zv122:AV:=(.grow 1 1 18 11074 8)
def zv123:AV:=(.grow 2 1 21 11077 1)
def zv124:AV:=(.grow 6 1 22 11078 1)
def zv125:AV:=(L 1 11079 [(Fl 1 [])])
def zv126:AV:=(L 1 11080 [(Fl 1 [])])
def zw127:List AV:=[(L 4 11067 zw118),(Fl 1 []),zv121,(u 5),(i 0),(i 0),(q 65536),zv122,zv123,zv124,zv125,zv126]
def zw128:List AV:=[(G zw87),(.tup [.nils,(i 2)]),.nils,(i 2),zv96,(G zw21),(G zw87),zv96,.nils,(i 16),(.tup [.nils,(i 0)]),(G zw21),(G zw105),(.tup [.nils,(i 0)]),.nils,(i 0),zv96,(G zw21),(G zw115),zv96,.nils,(i 16),(G zw21),(G zw127)]
def zv129:AV:=(.grow 1 1 20 11076 32)
def zw130:List AV:=[(p 1 23 11081 8),zv123,(p 1 21 11077 0),(p 1 21 11077 1),zv129,(p 1 20 11076 24),e,e,e,e,e,e,e,e,e,e,e,e,e,e,e,e,e,e]
def zr131:List AV:=zw113++(zw114++(zw86++(zw128++(zw130++(zw0++(zw0++(zw0++(zw0++(zw1)))))))))
def zw132:List AV:=[(u 8),(u 0),(u 1),(u 0),(u 0),(u 0),(u 0),(u 0)]
def zw133:List AV:=zw30++(zw132)
def zb134:List Blk:=[⟨11059,zw21⟩,⟨11060,zw127⟩,⟨11074,zw18⟩,⟨11075,[(q 65536),zv122]⟩,⟨11076,zw133⟩,⟨11077,[(q 16777216),zv129]⟩,⟨11078,zw20⟩,⟨11081,zw127⟩]
def zb135:List Blk:=zb33++(zb78++(zb134))
def zm136:Mem:=⟨[[]],zb135,11082,[[11080,11079,11073,11067]],0⟩
def zc140:ACode:=spD 3 zc112
def zw141:List AV:=[(i 16),(p 1 23 11081 0),.nils,(i 16),(p 1 31 12833 0),e,e,e,(G zw21),(G zw22),zv24,(G zw25),zv24,(G zw23),(i 8),zv26,(G zw21),zv26,(G zw23),(i 2),zv26,(G zw21),zv26,(G zw23)]
def zv142:AV:=(L 2 12823 [(G [(i 0),(q 0)])])
def zw143:List AV:=[(.str [109]),(i 0),zv9,(L 2 12821 [zv10]),(L 4 12822 zw14),zv142,(L 2 12824 zw16)]
def zv144:AV:=(L 7 12825 [(G zw143)])
def zv145:AV:=(.grow 1 1 26 12826 8)
def zv146:AV:=(.grow 2 1 29 12829 1)
def zv147:AV:=(.grow 6 1 30 12830 1)
def zv148:AV:=(L 1 12831 [(Fl 1 [])])
def zv149:AV:=(L 1 12832 [(Fl 1 [])])
def zw150:List AV:=[(L 4 12819 zw118),(Fl 1 []),zv144,(u 5),(i 0),(i 0),(q 65536),zv145,zv146,zv147,zv148,zv149]
def zv151:AV:=(.grow 1 1 28 12828 32)
def zw152:List AV:=[(p 1 23 11081 8),zv123,(p 1 21 11077 0),(p 1 21 11077 1),zv129,(p 1 20 11076 24),zv96,(G zw127),(G zw22),zv96,.nils,(i 16),(G zw21),(G zw150),(p 1 31 12833 8),zv146,(p 1 29 12829 0),(p 1 29 12829 1),zv151,(p 1 28 12828 26),e,e,e,e]
def zr153:List AV:=zw113++(zw141++(zw86++(zw128++(zw152++(zw0++(zw0++(zw0++(zw0++(zw1)))))))))
def zw154:List AV:=[(u 0),(u 0),(u 0),(u 0),(u 0),(u 0),(u 0),(u 0)]
def zw155:List AV:=zw30++(zw154)
def zb156:List Blk:=[⟨12811,zw21⟩,⟨12812,zw150⟩,⟨12826,zw18⟩,⟨12827,[(q 65536),zv145]⟩,⟨12828,zw155⟩,⟨12829,[(q 16777216),zv151]⟩,⟨12830,zw20⟩,⟨12833,zw150⟩]
def zb157:List Blk:=zb33++(zb78++(zb134++(zb156)))
def zm158:Mem:=⟨[[]],zb157,12834,[[12832,12831,12825,12819,11080,11079,11073,11067]],0⟩
def zc162:ACode:=spD 3 zc140
def zw163:List AV:=[(i 0),(u 4),(i 0),(.str []),.nils,F]
def zv164:AV:=(L 6 14527 [(G zw163)])
def zw165:List AV:=[(i 16),(p 1 23 11081 0),.nils,(i 16),(p 1 31 12833 0),zv164,(i 0),(p 1 32 14528 0),(G zw21),(G zw22),zv24,(G zw25),zv24,(G zw23),(i 8),zv26,(G zw21),zv26,(G zw23),(i 2),zv26,(G zw21),zv26,(G zw23)]
def zw166:List AV:=[(p 1 23 11081 8),zv123,(p 1 21 11077 0),(p 1 21 11077 1),zv129,(p 1 20 11076 24),zv96,(G zw127),(G zw22),zv96,.nils,(i 16),(G zw21),(G zw150),(p 1 31 12833 8),zv146,(p 1 29 12829 0),(p 1 29 12829 1),zv151,(p 1 28 12828 26),(.tup [zv164,(i 0)]),(G zw150),(G zw22),(.tup [zv164,(i 0)])]
def zw167:List AV:=[(u 7),(i 0),(.str []),.nils,F]
def zw168:List AV:=[zv164,(i 0),(i 0),F,F,zv164,(i 1),F,F,(G zw167),e,e,e,e,e,e,e,e,e,e,e,e,e,e]
def zr169:List AV:=zw113++(zw165++(zw86++(zw128++(zw166++(zw168++(zw0++(zw0++(zw0++(zw1)))))))))
def zb170:List Blk:=[⟨14528,zw167⟩]
def zb171:List Blk:=zb33++(zb78++(zb134++(zb156++(zb170))))
def zm172:Mem:=⟨[[]],zb171,14529,[[14527,12832,12831,12825,12819,11080,11079,11073,11067]],0⟩
def zc176:ACode:=spD 3 zc162
def zc177:ACode:=sL zc176
def zw178:List AV:=[T,(p 1 8 8 0),(p 1 9 9 0),(p 1 10 24 0),(i 8),(p 1 11 1106 0),(i 2),(p 1 12 2188 0),(i 2),(p 1 13 3289 0),(i 2),(p 1 14 4474 0),(i 16),(p 1 15 5666 0),(i 0),.nils,(i 8),.nils,(i 2),.nils,(i 16),.nils,(i 0),.nils]
def zw179:List AV:=[zv164,(i 0),(i 0),F,F,zv164,(i 1),F,F,(G zw167),T,T,T,T,(i 8),T,T,T,(i 2),T,T,T,(i 2),T]
def zw180:List AV:=[T,T,(i 2),T,T,T,(i 16),T,T,T,(i 0),T,T,T,(p 1 15 5666 1),(i 5),T,T,T,(i 8),T,T,T,(i 2)]
def zw181:List AV:=[T,T,T,(i 16),T,T,T,(i 0),T,T,T,.nils,(i 0),T,T,T,(i 16),T,T,T,(i 16),T,T,T]
def zw182:List AV:=[(u 4),(i 0),(.str []),.nils,F]
def zw183:List AV:=[zv164,(.ro zw163),(.ro zw163),(i 0),T,T,T,zv164,(.ro zw163),(.ro zw182),(.ro [.nils,F]),.nils,(i 0),T,T,T,zv164,(.ro zw163),(.ro zw182),(.ro [F]),F,T,T,T]
def zw184:List AV:=[(u 4),(i 0),(.str []),(Fl 5 [(G zw74)]),F]
def zw185:List AV:=[(G zw167),(G zw184)]
def zw186:List AV:=[(u 5),(i 0),(.str []),(Fl 5 zw185),F]
def zw187:List AV:=[(G zw167),(i 0),T,T,T,(G zw167),(i 1),T,T,T,(G zw167),F,T,T,T,(G zw167),(G zw184),(Fl 5 zw185),(G zw186),(i 1),T,T]
def zr188:List AV:=zw178++(zw165++(zw86++(zw128++(zw166++(zw179++(zw180++(zw181++(zw183++(zw187)))))))))
def zm189:Mem:=⟨[[]],zb171,19737,[[14527,12832,12831,12825,12819,11080,11079,11073,11067]],0⟩
def zc193:ACode:=sR zc176
def zm209:Mem:=⟨[],[],19737,[],0⟩
theorem zk37:K 10000 238 (spT 5 zc4) zr2 zm3=some (0,zr28,zm36):=by kernel_rfl
theorem zk48:K 10000 238 (spT 1 zc40) zr28 zm36=some (0,zr44,zm47):=by kernel_rfl
theorem zk58:K 10000 238 (spT 1 zc51) zr44 zm47=some (0,zr54,zm57):=by kernel_rfl
theorem zk69:K 10000 238 (spT 1 zc61) zr54 zm57=some (0,zr65,zm68):=by kernel_rfl
theorem zk81:K 10000 238 (spT 2 zc72) zr65 zm68=some (0,zr77,zm80):=by kernel_rfl
theorem zk91:K 10000 238 (spT 1 zc84) zr77 zm80=some (0,zr89,zm90):=by kernel_rfl
theorem zk100:K 10000 238 (spT 1 zc94) zr89 zm90=some (0,zr98,zm99):=by kernel_rfl
theorem zk109:K 10000 238 (spT 1 zc103) zr98 zm99=some (0,zr107,zm108):=by kernel_rfl
theorem zk137:K 10000 238 (spT 3 zc112) zr107 zm108=some (0,zr131,zm136):=by kernel_rfl
theorem zk159:K 10000 238 (spT 3 zc140) zr131 zm136=some (0,zr153,zm158):=by kernel_rfl
theorem zk173:K 10000 238 (spT 3 zc162) zr153 zm158=some (0,zr169,zm172):=by kernel_rfl
theorem zk190:K 10000 238 zc177 zr169 zm172=some (0,zr188,zm189):=by kernel_rfl
theorem zk194:K 10000 238 zc193 zr188 zm189=some (1,zr188,zm189):=by kernel_rfl
theorem zl38:zr2.length=238:=by kernel_rfl
theorem zp39:E 10000 238 (spT 5 zc4) zr2 zm3=some (outOf 0,⟨zr28,zm36⟩):=zh (Nat.le_of_ble_eq_true rfl) zl38 zk37
theorem zl49:zr28.length=238:=by kernel_rfl
theorem zp50:E 10000 238 (spT 1 zc40) zr28 zm36=some (outOf 0,⟨zr44,zm47⟩):=zh (Nat.le_of_ble_eq_true rfl) zl49 zk48
theorem zl59:zr44.length=238:=by kernel_rfl
theorem zp60:E 10000 238 (spT 1 zc51) zr44 zm47=some (outOf 0,⟨zr54,zm57⟩):=zh (Nat.le_of_ble_eq_true rfl) zl59 zk58
theorem zl70:zr54.length=238:=by kernel_rfl
theorem zp71:E 10000 238 (spT 1 zc61) zr54 zm57=some (outOf 0,⟨zr65,zm68⟩):=zh (Nat.le_of_ble_eq_true rfl) zl70 zk69
theorem zl82:zr65.length=238:=by kernel_rfl
theorem zp83:E 10000 238 (spT 2 zc72) zr65 zm68=some (outOf 0,⟨zr77,zm80⟩):=zh (Nat.le_of_ble_eq_true rfl) zl82 zk81
theorem zl92:zr77.length=238:=by kernel_rfl
theorem zp93:E 10000 238 (spT 1 zc84) zr77 zm80=some (outOf 0,⟨zr89,zm90⟩):=zh (Nat.le_of_ble_eq_true rfl) zl92 zk91
theorem zl101:zr89.length=238:=by kernel_rfl
theorem zp102:E 10000 238 (spT 1 zc94) zr89 zm90=some (outOf 0,⟨zr98,zm99⟩):=zh (Nat.le_of_ble_eq_true rfl) zl101 zk100
theorem zl110:zr98.length=238:=by kernel_rfl
theorem zp111:E 10000 238 (spT 1 zc103) zr98 zm99=some (outOf 0,⟨zr107,zm108⟩):=zh (Nat.le_of_ble_eq_true rfl) zl110 zk109
theorem zl138:zr107.length=238:=by kernel_rfl
theorem zp139:E 10000 238 (spT 3 zc112) zr107 zm108=some (outOf 0,⟨zr131,zm136⟩):=zh (Nat.le_of_ble_eq_true rfl) zl138 zk137
theorem zl160:zr131.length=238:=by kernel_rfl
theorem zp161:E 10000 238 (spT 3 zc140) zr131 zm136=some (outOf 0,⟨zr153,zm158⟩):=zh (Nat.le_of_ble_eq_true rfl) zl160 zk159
theorem zl174:zr153.length=238:=by kernel_rfl
theorem zp175:E 10000 238 (spT 3 zc162) zr153 zm158=some (outOf 0,⟨zr169,zm172⟩):=zh (Nat.le_of_ble_eq_true rfl) zl174 zk173
theorem zl191:zr169.length=238:=by kernel_rfl
theorem zp192:E 10000 238 zc177 zr169 zm172=some (outOf 0,⟨zr188,zm189⟩):=zh (Nat.le_of_ble_eq_true rfl) zl191 zk190
theorem zl195:zr188.length=238:=by kernel_rfl
theorem zp196:E 10000 238 zc193 zr188 zm189=some (outOf 1,⟨zr188,zm189⟩):=zh (Nat.le_of_ble_eq_true rfl) zl195 zk194
theorem zp197:E 10000 238 zc176 zr169 zm172=some (outOf 1,⟨zr188,zm189⟩):=Yc (by kernel_rfl) zp192 zp196
theorem zp198:E 10000 238 zc162 zr153 zm158=some (outOf 1,⟨zr188,zm189⟩):=yF 3 _ zp175 zp197
theorem zp199:E 10000 238 zc140 zr131 zm136=some (outOf 1,⟨zr188,zm189⟩):=yF 3 _ zp161 zp198
theorem zp200:E 10000 238 zc112 zr107 zm108=some (outOf 1,⟨zr188,zm189⟩):=yF 3 _ zp139 zp199
theorem zp201:E 10000 238 zc103 zr98 zm99=some (outOf 1,⟨zr188,zm189⟩):=yF 1 _ zp111 zp200
theorem zp202:E 10000 238 zc94 zr89 zm90=some (outOf 1,⟨zr188,zm189⟩):=yF 1 _ zp102 zp201
theorem zp203:E 10000 238 zc84 zr77 zm80=some (outOf 1,⟨zr188,zm189⟩):=yF 1 _ zp93 zp202
theorem zp204:E 10000 238 zc72 zr65 zm68=some (outOf 1,⟨zr188,zm189⟩):=yF 2 _ zp83 zp203
theorem zp205:E 10000 238 zc61 zr54 zm57=some (outOf 1,⟨zr188,zm189⟩):=yF 1 _ zp71 zp204
theorem zp206:E 10000 238 zc51 zr44 zm47=some (outOf 1,⟨zr188,zm189⟩):=yF 1 _ zp60 zp205
theorem zp207:E 10000 238 zc40 zr28 zm36=some (outOf 1,⟨zr188,zm189⟩):=yF 1 _ zp50 zp206
theorem zp208:E 10000 238 zc4 zr2 zm3=some (outOf 1,⟨zr188,zm189⟩):=yF 5 _ zp39 zp207
theorem zf210:C 10001 zg [] Mem.zero=some (T,zm209):=Tf (n:=10000) 1 (Nat.le_of_ble_eq_true rfl) xN (by kernel_rfl) (by kernel_rfl) (by kernel_rfl) zp208 (by kernel_rfl)
theorem top:C 10001 zg [] Mem.zero=some (.bool true,zm209):=zf210
end Go.Proofs.W
end
section
namespace Go.Proofs.YtbgppcjifcladaaGreat
set_option maxRecDepth 100000
open Go.Vs Go.ChangeShapes Go.WideShapes Go.ChangeAt Go.RowKit Go.Proofs.W
theorem k_law:Known Tryz.prog 6 true:=YW gmask (f:=zg) (by kernel_rfl) tabOk 10001 top
theorem Tryz.own:ownKnob Tryz.prog.godebug=none:=by kernel_rfl
theorem Tryz.laidOut:laidOutB Tryz.prog=true:=by kernel_rfl
theorem f_lifted (os:Os) (started:os.Started) (H:Type) (enc:TypeId×Value→H):
  ReturnsInHanded {} Tryz.checked os 6 .any (Rows.localsNamesSpec.pre6 enc Tryz.prog Tryz.f6 Rows.localsNamesRow.domain false) (Rows.localsNamesSpec.post enc Tryz.prog Tryz.f6 false true false false):=by
 refine returnsInHanded_of_change (C:=Tryz.checked) Tryz.own started (by kernel_rfl) Tryz.func6
  (ChangeSpec.witness6 (enc:=enc) (C:=Tryz.checked) false ⟨#[],#[],[]⟩ 12 (by kernel_rfl) (by kernel_rfl) (by kernel_rfl) (by kernel_rfl)) ?_
 intro W base args ds gs before hval hW _ _
 exact Uj (P:=Tryz.prog) Tryz.laidOut rfl rfl rfl (by kernel_rfl) rfl k_law hW
theorem localsNames_holds:Rows.LocalsNamesSaid:=
 OpenClaim.holds_of_wide 6 Tryz.f6 rfl rfl rfl rfl rfl rfl rfl ⟨rfl,rfl,rfl,rfl,rfl⟩ rfl rfl rfl rfl rfl (by kernel_rfl) Tryz.func6 (by kernel_rfl)
  (of_decide_eq_true (by kernel_rfl)) (by unfold Func.isWrapper;first|(rw[if_pos (by decide+kernel)];kernel_rfl)|(rw[if_neg (by decide+kernel)];exact⟨rfl,rfl⟩))
  (fun os started H enc _=>f_lifted os started H enc)
end Go.Proofs.YtbgppcjifcladaaGreat
end
