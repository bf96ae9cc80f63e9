/-
  Part 9 of the proof, shared by claims of this seat: A4Pc, A4Tie, A4Pd, X2Tie, X2Tie2, NVr, X2Read.
-/
import Derived.Test.YtmchgfpbddhfnaaGreatE6
import Derived.Test.YtmchgfpbddhfnaaGreatE7
import Derived.KernelRfl
import Derived.Test.YtmchgfpbddhfnaaGreatE4
import Derived.Test.YtmchgfpbddhfnaaGreatProg
import Derived.Test.YtmchgfpbddhfnaaGreatE2
import Derived.Test.YtmchgfpbddhfnaaGreatE5
set_option maxHeartbeats 64000000
set_option linter.unusedVariables false
set_option linter.unusedSimpArgs false
open Option renaming map_eq_some_iff → w00
section
namespace Go.Proofs.XW
open Go.Vs Go.Vs.Sn
set_option maxRecDepth 1000000
theorem zl279:zr269.length=19:=by kernel_rfl
theorem zp280:E g0 10000 19 zc271 zr269 zm270=some (outOf 1,⟨zr275,zm277⟩):=Uo (Nat.le_of_ble_eq_true rfl) zl279 zk278
theorem zf282:C g0 10001 F_crc_Table [] Mem.zero=some ((G zw267),zm281):=VR (fn:=a_crc_Table) (n:=10000) 1 (Nat.le_of_ble_eq_true rfl) (by kernel_rfl) (by kernel_rfl) (by kernel_rfl) (by kernel_rfl) (by kernel_rfl) zp280 (by kernel_rfl)
theorem zl290:zr285.length=13:=by kernel_rfl
theorem zp291:E g0 10000 13 zc286 zr285 zm270=some (outOf 1,⟨zr288,zm277⟩):=Uo (Nat.le_of_ble_eq_true rfl) zl290 zk289
theorem zf292:C g0 10001 F_wreckageref01_Table [] Mem.zero=some ((G zw267),zm281):=VR (fn:=a_wreckageref01_Table) (n:=10000) 1 (Nat.le_of_ble_eq_true rfl) (by kernel_rfl) (by kernel_rfl) (by kernel_rfl) (by kernel_rfl) (by kernel_rfl) zp291 (by kernel_rfl)
theorem zl308:zr300.length=13:=by kernel_rfl
theorem zp309:E g1 10000 13 zc301 zr300 zm270=some (outOf 1,⟨zr304,zm306⟩):=Uo (Nat.le_of_ble_eq_true rfl) zl308 zk307
theorem zf311:C g1 10001 vU [(G zw298)] Mem.zero=some ((i 0),zm310):=VR (fn:=qy) (n:=10000) 1 (Nat.le_of_ble_eq_true rfl) (by kernel_rfl) (by kernel_rfl) (by kernel_rfl) (by kernel_rfl) (by kernel_rfl) zp309 (by kernel_rfl)
theorem zl326:zr317.length=53:=by kernel_rfl
theorem zp327:E g1 10000 53 zc318 zr317 zm270=some (outOf 1,⟨zr322,zm324⟩):=Uo (Nat.le_of_ble_eq_true rfl) zl326 zk325
theorem zf330:C g1 10001 yZ [(G zw298)] Mem.zero=some ((.tup zw328),zm329):=VR (fn:=tl) (n:=10000) 1 (Nat.le_of_ble_eq_true rfl) (by kernel_rfl) (by kernel_rfl) (by kernel_rfl) (by kernel_rfl) (by kernel_rfl) zp327 (by kernel_rfl)
theorem zl353:zr333.length=47:=by kernel_rfl
theorem zp354:E g2 10000 47 (spT 4 zc334) zr333 zm270=some (outOf 0,⟨zr350,zm351⟩):=Uo (Nat.le_of_ble_eq_true rfl) zl353 zk352
theorem zl367:zr350.length=47:=by kernel_rfl
theorem zp368:E g2 10000 47 zc355 zr350 zm351=some (outOf 1,⟨zr363,zm365⟩):=Uo (Nat.le_of_ble_eq_true rfl) zl367 zk366
theorem zp369:E g2 10000 47 zc334 zr333 zm270=some (outOf 1,⟨zr363,zm365⟩):=zd5 4 _ zp354 zp368
theorem zf371:C g2 10001 F_wreckagelaw35_alive [] Mem.zero=some (T,zm370):=VR (fn:=zO) (n:=10000) 1 (Nat.le_of_ble_eq_true rfl) (by kernel_rfl) (by kernel_rfl) (by kernel_rfl) (by kernel_rfl) (by kernel_rfl) zp369 (by kernel_rfl)
theorem top:C g2 10001 F_wreckagelaw35_alive [] Mem.zero=some (.bool true,zm370):=zf371
end Go.Proofs.XW
end
section
namespace Go.Proofs.XW
open Go.Vs Go.Vs.U
set_option maxRecDepth 100000
theorem tabp0Ok:TabOk Tryz.prog tabp0:=by
 intro f afn h
 unfold tabp0 at h
 split at h
 ·exact tab1 (n:=z54) Tryz.func9 (by kernel_rfl) h
 ·exact tab1 (n:=z6S) Tryz.func10 (by kernel_rfl) h
 ·exact tab1 (n:=VE) Tryz.func11 (by kernel_rfl) h
 ·exact tab1 (n:=qS) Tryz.func15 (by kernel_rfl) h
 ·exact tab1 (n:=z2G) Tryz.func16 (by kernel_rfl) h
 ·exact tab1 (n:=n_again_Exchange) Tryz.func18 (by kernel_rfl) h
 ·exact tab1 (n:=Zm) Tryz.func21 (by kernel_rfl) h
 ·exact tab1 (n:=n_wreckageref25_Bytes) Tryz.func24 (by kernel_rfl) h
 ·exact tab1 (n:=n_parse_Dump) Tryz.func26 (by kernel_rfl) h
 ·exact tab1 (n:=n_section_Read) Tryz.func27 (by kernel_rfl) h
 ·exact tab1 (n:=tD) Tryz.func33 (by kernel_rfl) h
 ·exact tab1 (n:=z5k) Tryz.func37 (by kernel_rfl) h
 ·exact tab1 (n:=z0i) Tryz.func38 (by kernel_rfl) h
 ·exact tab1 (n:=z0h) Tryz.func39 (by kernel_rfl) h
 ·exact tab1 (n:=XC) Tryz.func40 (by kernel_rfl) h
 ·exact tab1 (n:=XD) Tryz.func41 (by kernel_rfl) h
 ·exact tab1 (n:=XA) Tryz.func42 (by kernel_rfl) h
 ·exact tab1 (n:=XB) Tryz.func43 (by kernel_rfl) h
 ·exact tab1 (n:=VD) Tryz.func44 (by kernel_rfl) h
 ·exact tab1 (n:=WU) Tryz.func45 (by kernel_rfl) h
 ·exact tab1 (n:=Z8) Tryz.func46 (by kernel_rfl) h
 ·exact tab1 (n:=z5j) Tryz.func47 (by kernel_rfl) h
 ·exact tab1 (n:=n_again_find) Tryz.func48 (by kernel_rfl) h
 ·exact tab1 (n:=n_section_Write) Tryz.func49 (by kernel_rfl) h
 ·exact tab1 (n:=z2c) Tryz.func51 (by kernel_rfl) h
 ·exact tab1 (n:=n_wreckageref25_four) Tryz.func56 (by kernel_rfl) h
 ·exact tab1 (n:=n_wreckageref01_On) Tryz.func57 (by kernel_rfl) h
 ·exact tab1 (n:=n_section_Check) Tryz.func58 (by kernel_rfl) h
 ·exact tab1 (n:=n_bytes_Clone) Tryz.func59 (by kernel_rfl) h
 ·exact tab1 (n:=z09) Tryz.func60 (by kernel_rfl) h
 ·exact tab1 (n:=VL) Tryz.func61 (by kernel_rfl) h
 ·exact tab1 (n:=VG) Tryz.func62 (by kernel_rfl) h
 ·exact tab1 (n:=XE) Tryz.func63 (by kernel_rfl) h
 ·exact tab1 (n:=VK) Tryz.func64 (by kernel_rfl) h
 ·exact tab1 (n:=V0) Tryz.func65 (by kernel_rfl) h
 ·exact tab1 (n:=n_bytes_HasPrefix) Tryz.func66 (by kernel_rfl) h
 ·exact tab1 (n:=n_crc_Table) Tryz.func67 (by kernel_rfl) h
 ·exact tab1 (n:=n_crc_Sum) Tryz.func68 (by kernel_rfl) h
 ·exact tab1 (n:=n_section_number) Tryz.func69 (by kernel_rfl) h
 ·exact tab1 (n:=n_section_ordered) Tryz.func70 (by kernel_rfl) h
 ·exact tab1 (n:=z23) Tryz.func72 (by kernel_rfl) h
 ·exact tab1 (n:=TH) Tryz.func73 (by kernel_rfl) h
 ·exact tab1 (n:=jB) Tryz.func82 (by kernel_rfl) h
 ·exact tab1 (n:=uN) Tryz.func83 (by kernel_rfl) h
 ·exact tab1 (n:=tF) Tryz.func84 (by kernel_rfl) h
 ·exact tab1 (n:=uP) Tryz.func85 (by kernel_rfl) h
 ·exact tab1 (n:=tE) Tryz.func86 (by kernel_rfl) h
 ·exact tab1 (n:=uO) Tryz.func87 (by kernel_rfl) h
 ·exact tab1 (n:=TL) Tryz.func89 (by kernel_rfl) h
 ·exact tab1 (n:=z2D) Tryz.func90 (by kernel_rfl) h
 ·exact tab1 (n:=z2B) Tryz.func91 (by kernel_rfl) h
 ·exact tab1 (n:=z5c) Tryz.func92 (by kernel_rfl) h
 ·exact tab1 (n:=TO) Tryz.func93 (by kernel_rfl) h
 ·exact tab1 (n:=z0g) Tryz.func94 (by kernel_rfl) h
 ·exact tab1 (n:=z2E) Tryz.func95 (by kernel_rfl) h
 ·exact tab1 (n:=z0f) Tryz.func96 (by kernel_rfl) h
 ·exact tab1 (n:=z2F) Tryz.func97 (by kernel_rfl) h
 ·exact tab1 (n:=z53) Tryz.func98 (by kernel_rfl) h
 ·exact tab1 (n:=Tz) Tryz.func99 (by kernel_rfl) h
 ·exact tab1 (n:=TM) Tryz.func100 (by kernel_rfl) h
 ·exact tab1 (n:=n_slices_IndexFunc_api_Section_api_Section) Tryz.func101 (by kernel_rfl) h
 ·exact tab1 (n:=n_again_find_1) Tryz.func102 (by kernel_rfl) h
 ·exact tab1 (n:=n_section_fixed) Tryz.func103 (by kernel_rfl) h
 ·exact tab1 (n:=QW) Tryz.func104 (by kernel_rfl) h
 ·exact tab1 (n:=n_wreckageref02_Little) Tryz.func113 (by kernel_rfl) h
 ·exact tab1 (n:=n_wreckageref01_Table) Tryz.func114 (by kernel_rfl) h
 ·exact tab1 (n:=n_section_length) Tryz.func115 (by kernel_rfl) h
 ·exact tab1 (n:=Zs) Tryz.func116 (by kernel_rfl) h
 ·exact tab1 (n:=XI) Tryz.func117 (by kernel_rfl) h
 ·exact tab1 (n:=XG) Tryz.func118 (by kernel_rfl) h
 ·exact tab1 (n:=qV) Tryz.func119 (by kernel_rfl) h
 ·exact tab1 (n:=z5b) Tryz.func120 (by kernel_rfl) h
 ·exact tab1 (n:=jK) Tryz.func121 (by kernel_rfl) h
 ·exact tab1 (n:=XQ) Tryz.func122 (by kernel_rfl) h
 ·exact tab1 (n:=XK) Tryz.func123 (by kernel_rfl) h
 ·exact tab1 (n:=Zu) Tryz.func124 (by kernel_rfl) h
 ·exact tab1 (n:=Zv) Tryz.func125 (by kernel_rfl) h
 ·exact tab1 (n:=TK) Tryz.func126 (by kernel_rfl) h
 ·exact tab1 (n:=z8o) Tryz.func127 (by kernel_rfl) h
 ·exact tab1 (n:=z2e) Tryz.func128 (by kernel_rfl) h
 ·exact tab1 (n:=QZ) Tryz.func129 (by kernel_rfl) h
 ·exact tab1 (n:=TF) Tryz.func130 (by kernel_rfl) h
 ·exact tab1 (n:=z20) Tryz.func131 (by kernel_rfl) h
 ·exact tab1 (n:=z2h) Tryz.func132 (by kernel_rfl) h
 ·exact tab1 (n:=WW) Tryz.func133 (by kernel_rfl) h
 ·exact tab1 (n:=qd) Tryz.func134 (by kernel_rfl) h
 ·exact tab1 (n:=XP) Tryz.func135 (by kernel_rfl) h
 ·exact tab1 (n:=z5d) Tryz.func136 (by kernel_rfl) h
 ·exact tab1 (n:=Yp) Tryz.func137 (by kernel_rfl) h
 ·exact tab1 (n:=Ux) Tryz.func138 (by kernel_rfl) h
 ·exact tab1 (n:=XM) Tryz.func139 (by kernel_rfl) h
 ·exact tab1 (n:=Yq) Tryz.func140 (by kernel_rfl) h
 ·exact tab1 (n:=VJ) Tryz.func141 (by kernel_rfl) h
 ·exact tab1 (n:=n_bytes_Equal) Tryz.func142 (by kernel_rfl) h
 ·exact tab1 (n:=n_crc_turn) Tryz.func143 (by kernel_rfl) h
 ·exact tab1 (n:=n_crc_Next) Tryz.func144 (by kernel_rfl) h
 ·exact tab1 (n:=VC) Tryz.func145 (by kernel_rfl) h
 ·exact tab1 (n:=z01) Tryz.func146 (by kernel_rfl) h
 ·exact tab1 (n:=z6R) Tryz.func147 (by kernel_rfl) h
 ·exact tab1 (n:=z5f) Tryz.func148 (by kernel_rfl) h
 ·cases h
theorem tabp1Ok:TabOk Tryz.prog tabp1:=by
 intro f afn h
 unfold tabp1 at h
 split at h
 ·exact tab1 (n:=z2j) Tryz.func149 (by kernel_rfl) h
 ·exact tab1 (n:=Zd) Tryz.func151 (by kernel_rfl) h
 ·exact tab1 (n:=Zc) Tryz.func152 (by kernel_rfl) h
 ·exact tab1 (n:=jx) Tryz.func153 (by kernel_rfl) h
 ·exact tab1 (n:=qR) Tryz.func154 (by kernel_rfl) h
 ·exact tab1 (n:=qP) Tryz.func155 (by kernel_rfl) h
 ·exact tab1 (n:=Yf) Tryz.func156 (by kernel_rfl) h
 ·exact tab1 (n:=z73) Tryz.func162 (by kernel_rfl) h
 ·exact tab1 (n:=z2C) Tryz.func163 (by kernel_rfl) h
 ·exact tab1 (n:=z2r) Tryz.func164 (by kernel_rfl) h
 ·exact tab1 (n:=z2i) Tryz.func165 (by kernel_rfl) h
 ·exact tab1 (n:=yN) Tryz.func166 (by kernel_rfl) h
 ·exact tab1 (n:=TP) Tryz.func167 (by kernel_rfl) h
 ·exact tab1 (n:=z25) Tryz.func168 (by kernel_rfl) h
 ·exact tab1 (n:=z2a) Tryz.func169 (by kernel_rfl) h
 ·exact tab1 (n:=z2k) Tryz.func170 (by kernel_rfl) h
 ·exact tab1 (n:=QU) Tryz.func171 (by kernel_rfl) h
 ·exact tab1 (n:=Xx) Tryz.func172 (by kernel_rfl) h
 ·exact tab1 (n:=n_wire_Fixed) Tryz.func173 (by kernel_rfl) h
 ·exact tab1 (n:=z2b) Tryz.func174 (by kernel_rfl) h
 ·exact tab1 (n:=n_wreckageref01_Element) Tryz.func178 (by kernel_rfl) h
 ·exact tab1 (n:=QO) Tryz.func179 (by kernel_rfl) h
 ·exact tab1 (n:=Zt) Tryz.func180 (by kernel_rfl) h
 ·exact tab1 (n:=z21) Tryz.func181 (by kernel_rfl) h
 ·exact tab1 (n:=Tx) Tryz.func182 (by kernel_rfl) h
 ·exact tab1 (n:=z57) Tryz.func183 (by kernel_rfl) h
 ·exact tab1 (n:=XH) Tryz.func184 (by kernel_rfl) h
 ·exact tab1 (n:=z2p) Tryz.func185 (by kernel_rfl) h
 ·exact tab1 (n:=Uw) Tryz.func186 (by kernel_rfl) h
 ·exact tab1 (n:=z6P) Tryz.func187 (by kernel_rfl) h
 ·exact tab1 (n:=XJ) Tryz.func188 (by kernel_rfl) h
 ·exact tab1 (n:=z2f) Tryz.func189 (by kernel_rfl) h
 ·exact tab1 (n:=z50) Tryz.func190 (by kernel_rfl) h
 ·exact tab1 (n:=z0a) Tryz.func191 (by kernel_rfl) h
 ·exact tab1 (n:=xk) Tryz.func192 (by kernel_rfl) h
 ·exact tab1 (n:=XN) Tryz.func193 (by kernel_rfl) h
 ·exact tab1 (n:=n_crc_check) Tryz.func194 (by kernel_rfl) h
 ·exact tab1 (n:=n_crc_steps) Tryz.func195 (by kernel_rfl) h
 ·exact tab1 (n:=Xr) Tryz.func196 (by kernel_rfl) h
 ·exact tab1 (n:=Xq) Tryz.func197 (by kernel_rfl) h
 ·exact tab1 (n:=z6Q) Tryz.func198 (by kernel_rfl) h
 ·exact tab1 (n:=z6T) Tryz.func199 (by kernel_rfl) h
 ·exact tab1 (n:=z5e) Tryz.func200 (by kernel_rfl) h
 ·exact tab1 (n:=Yg) Tryz.func201 (by kernel_rfl) h
 ·exact tab1 (n:=jz) Tryz.func202 (by kernel_rfl) h
 ·exact tab1 (n:=jA) Tryz.func203 (by kernel_rfl) h
 ·exact tab1 (n:=Yk) Tryz.func204 (by kernel_rfl) h
 ·exact tab1 (n:=jG) Tryz.func205 (by kernel_rfl) h
 ·exact tab1 (n:=Zg) Tryz.func206 (by kernel_rfl) h
 ·exact tab1 (n:=Ze) Tryz.func207 (by kernel_rfl) h
 ·exact tab1 (n:=z2A) Tryz.func211 (by kernel_rfl) h
 ·exact tab1 (n:=z08) Tryz.func212 (by kernel_rfl) h
 ·exact tab1 (n:=z2z) Tryz.func213 (by kernel_rfl) h
 ·exact tab1 (n:=WZ) Tryz.func214 (by kernel_rfl) h
 ·exact tab1 (n:=z2y) Tryz.func215 (by kernel_rfl) h
 ·exact tab1 (n:=WX) Tryz.func216 (by kernel_rfl) h
 ·exact tab1 (n:=z2x) Tryz.func217 (by kernel_rfl) h
 ·exact tab1 (n:=Yn) Tryz.func218 (by kernel_rfl) h
 ·exact tab1 (n:=z2w) Tryz.func219 (by kernel_rfl) h
 ·exact tab1 (n:=WY) Tryz.func220 (by kernel_rfl) h
 ·exact tab1 (n:=z2v) Tryz.func221 (by kernel_rfl) h
 ·exact tab1 (n:=XO) Tryz.func222 (by kernel_rfl) h
 ·exact tab1 (n:=z2u) Tryz.func223 (by kernel_rfl) h
 ·exact tab1 (n:=z5l) Tryz.func224 (by kernel_rfl) h
 ·exact tab1 (n:=vE) Tryz.func225 (by kernel_rfl) h
 ·exact tab1 (n:=z00) Tryz.func226 (by kernel_rfl) h
 ·exact tab1 (n:=z2n) Tryz.func227 (by kernel_rfl) h
 ·exact tab1 (n:=ya) Tryz.func228 (by kernel_rfl) h
 ·exact tab1 (n:=TD) Tryz.func229 (by kernel_rfl) h
 ·exact tab1 (n:=QT) Tryz.func230 (by kernel_rfl) h
 ·exact tab1 (n:=Us) Tryz.func231 (by kernel_rfl) h
 ·exact tab1 (n:=QR) Tryz.func232 (by kernel_rfl) h
 ·exact tab1 (n:=z03) Tryz.func233 (by kernel_rfl) h
 ·exact tab1 (n:=z55) Tryz.func234 (by kernel_rfl) h
 ·exact tab1 (n:=qc) Tryz.func235 (by kernel_rfl) h
 ·exact tab1 (n:=z51) Tryz.func236 (by kernel_rfl) h
 ·exact tab1 (n:=Xt) Tryz.func237 (by kernel_rfl) h
 ·exact tab1 (n:=Zn) Tryz.func238 (by kernel_rfl) h
 ·exact tab1 (n:=Xy) Tryz.func239 (by kernel_rfl) h
 ·exact tab1 (n:=z24) Tryz.func240 (by kernel_rfl) h
 ·exact tab1 (n:=Ty) Tryz.func241 (by kernel_rfl) h
 ·exact tab1 (n:=n_wire_wide) Tryz.func242 (by kernel_rfl) h
 ·exact tab1 (n:=z9N) Tryz.func243 (by kernel_rfl) h
 ·exact tab1 (n:=TE) Tryz.func244 (by kernel_rfl) h
 ·exact tab1 (n:=QV) Tryz.func245 (by kernel_rfl) h
 ·exact tab1 (n:=z6N) Tryz.func247 (by kernel_rfl) h
 ·exact tab1 (n:=QY) Tryz.func248 (by kernel_rfl) h
 ·exact tab1 (n:=z6W) Tryz.func249 (by kernel_rfl) h
 ·exact tab1 (n:=z6Z) Tryz.func250 (by kernel_rfl) h
 ·exact tab1 (n:=TC) Tryz.func251 (by kernel_rfl) h
 ·exact tab1 (n:=z5a) Tryz.func252 (by kernel_rfl) h
 ·exact tab1 (n:=z06) Tryz.func253 (by kernel_rfl) h
 ·exact tab1 (n:=z2o) Tryz.func254 (by kernel_rfl) h
 ·exact tab1 (n:=z2q) Tryz.func255 (by kernel_rfl) h
 ·exact tab1 (n:=QP) Tryz.func256 (by kernel_rfl) h
 ·exact tab1 (n:=xU) Tryz.func257 (by kernel_rfl) h
 ·exact tab1 (n:=z5g) Tryz.func258 (by kernel_rfl) h
 ·exact tab1 (n:=WT) Tryz.func259 (by kernel_rfl) h
 ·exact tab1 (n:=z29) Tryz.func260 (by kernel_rfl) h
 ·exact tab1 (n:=z28) Tryz.func261 (by kernel_rfl) h
 ·cases h
theorem tabp2Ok:TabOk Tryz.prog tabp2:=by
 intro f afn h
 unfold tabp2 at h
 split at h
 ·exact tab1 (n:=Uv) Tryz.func262 (by kernel_rfl) h
 ·exact tab1 (n:=z04) Tryz.func263 (by kernel_rfl) h
 ·exact tab1 (n:=Zl) Tryz.func264 (by kernel_rfl) h
 ·exact tab1 (n:=Zi) Tryz.func265 (by kernel_rfl) h
 ·exact tab1 (n:=tX) Tryz.func266 (by kernel_rfl) h
 ·exact tab1 (n:=Zf) Tryz.func267 (by kernel_rfl) h
 ·exact tab1 (n:=tY) Tryz.func268 (by kernel_rfl) h
 ·exact tab1 (n:=jC) Tryz.func269 (by kernel_rfl) h
 ·exact tab1 (n:=Yo) Tryz.func273 (by kernel_rfl) h
 ·exact tab1 (n:=Zq) Tryz.func274 (by kernel_rfl) h
 ·exact tab1 (n:=XF) Tryz.func275 (by kernel_rfl) h
 ·exact tab1 (n:=qU) Tryz.func276 (by kernel_rfl) h
 ·exact tab1 (n:=z22) Tryz.func277 (by kernel_rfl) h
 ·exact tab1 (n:=z70) Tryz.func278 (by kernel_rfl) h
 ·exact tab1 (n:=z6O) Tryz.func279 (by kernel_rfl) h
 ·exact tab1 (n:=jJ) Tryz.func280 (by kernel_rfl) h
 ·exact tab1 (n:=z0b) Tryz.func281 (by kernel_rfl) h
 ·exact tab1 (n:=Zz) Tryz.func282 (by kernel_rfl) h
 ·exact tab1 (n:=jL) Tryz.func283 (by kernel_rfl) h
 ·exact tab1 (n:=qh) Tryz.func284 (by kernel_rfl) h
 ·exact tab1 (n:=z5h) Tryz.func285 (by kernel_rfl) h
 ·exact tab1 (n:=z6Y) Tryz.func286 (by kernel_rfl) h
 ·exact tab1 (n:=z27) Tryz.func287 (by kernel_rfl) h
 ·exact tab1 (n:=z2g) Tryz.func288 (by kernel_rfl) h
 ·exact tab1 (n:=z2m) Tryz.func289 (by kernel_rfl) h
 ·exact tab1 (n:=TI) Tryz.func290 (by kernel_rfl) h
 ·exact tab1 (n:=yy) Tryz.func291 (by kernel_rfl) h
 ·exact tab1 (n:=QS) Tryz.func292 (by kernel_rfl) h
 ·exact tab1 (n:=Uu) Tryz.func293 (by kernel_rfl) h
 ·exact tab1 (n:=Xz) Tryz.func294 (by kernel_rfl) h
 ·exact tab1 (n:=z52) Tryz.func295 (by kernel_rfl) h
 ·exact tab1 (n:=z2d) Tryz.func296 (by kernel_rfl) h
 ·exact tab1 (n:=z6U) Tryz.func297 (by kernel_rfl) h
 ·exact tab1 (n:=z6V) Tryz.func298 (by kernel_rfl) h
 ·exact tab1 (n:=z6X) Tryz.func299 (by kernel_rfl) h
 ·exact tab1 (n:=z8p) Tryz.func300 (by kernel_rfl) h
 ·exact tab1 (n:=QX) Tryz.func301 (by kernel_rfl) h
 ·exact tab1 (n:=VF) Tryz.func302 (by kernel_rfl) h
 ·exact tab1 (n:=Ur) Tryz.func303 (by kernel_rfl) h
 ·exact tab1 (n:=z26) Tryz.func304 (by kernel_rfl) h
 ·exact tab1 (n:=z07) Tryz.func305 (by kernel_rfl) h
 ·exact tab1 (n:=z59) Tryz.func306 (by kernel_rfl) h
 ·exact tab1 (n:=yo) Tryz.func307 (by kernel_rfl) h
 ·exact tab1 (n:=TJ) Tryz.func308 (by kernel_rfl) h
 ·exact tab1 (n:=z58) Tryz.func309 (by kernel_rfl) h
 ·exact tab1 (n:=Yj) Tryz.func310 (by kernel_rfl) h
 ·exact tab1 (n:=jD) Tryz.func311 (by kernel_rfl) h
 ·exact tab1 (n:=tZ) Tryz.func312 (by kernel_rfl) h
 ·exact tab1 (n:=Zk) Tryz.func313 (by kernel_rfl) h
 ·exact tab1 (n:=jF) Tryz.func314 (by kernel_rfl) h
 ·exact tab1 (n:=Zh) Tryz.func315 (by kernel_rfl) h
 ·exact tab1 (n:=Yh) Tryz.func316 (by kernel_rfl) h
 ·exact tab1 (n:=Zr) Tryz.func317 (by kernel_rfl) h
 ·exact tab1 (n:=z56) Tryz.func318 (by kernel_rfl) h
 ·exact tab1 (n:=TA) Tryz.func319 (by kernel_rfl) h
 ·exact tab1 (n:=z1Z) Tryz.func320 (by kernel_rfl) h
 ·exact tab1 (n:=z5i) Tryz.func321 (by kernel_rfl) h
 ·exact tab1 (n:=z2s) Tryz.func322 (by kernel_rfl) h
 ·exact tab1 (n:=Uy) Tryz.func323 (by kernel_rfl) h
 ·exact tab1 (n:=qe) Tryz.func324 (by kernel_rfl) h
 ·exact tab1 (n:=z0e) Tryz.func325 (by kernel_rfl) h
 ·exact tab1 (n:=Zw) Tryz.func326 (by kernel_rfl) h
 ·exact tab1 (n:=Zy) Tryz.func327 (by kernel_rfl) h
 ·exact tab1 (n:=qg) Tryz.func328 (by kernel_rfl) h
 ·exact tab1 (n:=vX) Tryz.func329 (by kernel_rfl) h
 ·exact tab1 (n:=uU) Tryz.func330 (by kernel_rfl) h
 ·exact tab1 (n:=XR) Tryz.func331 (by kernel_rfl) h
 ·exact tab1 (n:=qf) Tryz.func332 (by kernel_rfl) h
 ·exact tab1 (n:=qW) Tryz.func333 (by kernel_rfl) h
 ·exact tab1 (n:=ZA) Tryz.func334 (by kernel_rfl) h
 ·exact tab1 (n:=jM) Tryz.func335 (by kernel_rfl) h
 ·exact tab1 (n:=Zx) Tryz.func336 (by kernel_rfl) h
 ·exact tab1 (n:=z72) Tryz.func337 (by kernel_rfl) h
 ·exact tab1 (n:=jI) Tryz.func338 (by kernel_rfl) h
 ·exact tab1 (n:=jN) Tryz.func339 (by kernel_rfl) h
 ·exact tab1 (n:=z71) Tryz.func340 (by kernel_rfl) h
 ·exact tab1 (n:=z0c) Tryz.func341 (by kernel_rfl) h
 ·exact tab1 (n:=Ut) Tryz.func342 (by kernel_rfl) h
 ·exact tab1 (n:=Yl) Tryz.func343 (by kernel_rfl) h
 ·exact tab1 (n:=Ym) Tryz.func344 (by kernel_rfl) h
 ·exact tab1 (n:=z2l) Tryz.func345 (by kernel_rfl) h
 ·exact tab1 (n:=z05) Tryz.func346 (by kernel_rfl) h
 ·exact tab1 (n:=yO) Tryz.func347 (by kernel_rfl) h
 ·exact tab1 (n:=Zj) Tryz.func348 (by kernel_rfl) h
 ·exact tab1 (n:=WS) Tryz.func349 (by kernel_rfl) h
 ·exact tab1 (n:=jE) Tryz.func350 (by kernel_rfl) h
 ·exact tab1 (n:=Yi) Tryz.func351 (by kernel_rfl) h
 ·exact tab1 (n:=z2t) Tryz.func352 (by kernel_rfl) h
 ·exact tab1 (n:=uT) Tryz.func353 (by kernel_rfl) h
 ·exact tab1 (n:=vW) Tryz.func354 (by kernel_rfl) h
 ·exact tab1 (n:=qi) Tryz.func355 (by kernel_rfl) h
 ·exact tab1 (n:=Zp) Tryz.func356 (by kernel_rfl) h
 ·exact tab1 (n:=WV) Tryz.func357 (by kernel_rfl) h
 ·exact tab1 (n:=Zo) Tryz.func358 (by kernel_rfl) h
 ·exact tab1 (n:=qa) Tryz.func359 (by kernel_rfl) h
 ·exact tab1 (n:=uS) Tryz.func360 (by kernel_rfl) h
 ·exact tab1 (n:=uy) Tryz.func361 (by kernel_rfl) h
 ·exact tab1 (n:=TG) Tryz.func362 (by kernel_rfl) h
 ·exact tab1 (n:=xN) Tryz.func363 (by kernel_rfl) h
 ·exact tab1 (n:=ui) Tryz.func364 (by kernel_rfl) h
 ·cases h
theorem tabp3Ok:TabOk Tryz.prog tabp3:=by
 intro f afn h
 unfold tabp3 at h
 split at h
 ·exact tab1 (n:=xO) Tryz.func365 (by kernel_rfl) h
 ·exact tab1 (n:=vn) Tryz.func366 (by kernel_rfl) h
 ·exact tab1 (n:=xT) Tryz.func367 (by kernel_rfl) h
 ·exact tab1 (n:=yx) Tryz.func368 (by kernel_rfl) h
 ·exact tab1 (n:=z0d) Tryz.func369 (by kernel_rfl) h
 ·exact tab1 (n:=xu) Tryz.func370 (by kernel_rfl) h
 ·exact tab1 (n:=vV) Tryz.func371 (by kernel_rfl) h
 ·exact tab1 (n:=VI) Tryz.func372 (by kernel_rfl) h
 ·exact tab1 (n:=VH) Tryz.func373 (by kernel_rfl) h
 ·exact tab1 (n:=uh) Tryz.func374 (by kernel_rfl) h
 ·exact tab1 (n:=qT) Tryz.func375 (by kernel_rfl) h
 ·exact tab1 (n:=jH) Tryz.func376 (by kernel_rfl) h
 ·exact tab1 (n:=xw) Tryz.func377 (by kernel_rfl) h
 ·exact tab1 (n:=uR) Tryz.func378 (by kernel_rfl) h
 ·exact tab1 (n:=TN) Tryz.func379 (by kernel_rfl) h
 ·exact tab1 (n:=uQ) Tryz.func380 (by kernel_rfl) h
 ·cases h
theorem tabOk:TabOk Tryz.prog tab:=by
 intro f afn h
 unfold tab at h
 cases h0:tabp0 f with
 |some a=>rw[h0] at h;exact tabp0Ok f afn (h0.trans h)
 |none=>
 rw[h0] at h
 cases h1:tabp1 f with
 |some a=>rw[h1] at h;exact tabp1Ok f afn (h1.trans h)
 |none=>
 rw[h1] at h
 cases h2:tabp2 f with
 |some a=>rw[h2] at h;exact tabp2Ok f afn (h2.trans h)
 |none=>
 rw[h2] at h
 exact tabp3Ok f afn h
end Go.Proofs.XW
end
section
namespace Go.Proofs.XW
open Go.Vs Go.Vs.Sn
set_option maxRecDepth 1000000
theorem mok0:MemoOk Tryz.prog g0.memo:=V1 _
theorem zy283:MemoFact Tryz.prog F_crc_Table [] (G zw267):=Xb g0 (by kernel_rfl) tabOk mok0 10001 zf282 (by kernel_rfl)
theorem zy293:MemoFact Tryz.prog F_wreckageref01_Table [] (G zw267):=Xb g0 (by kernel_rfl) tabOk mok0 10001 zf292 (by kernel_rfl)
theorem mok1:MemoOk Tryz.prog g1.memo:=xE (l:=zH) (List.forall_mem_cons.2 ⟨zy293,fun _ h=>by cases h⟩) (xE (l:=uz) (List.forall_mem_cons.2 ⟨zy283,fun _ h=>by cases h⟩) (V1 _))
theorem zy312:MemoFact Tryz.prog vU [(G zw298)] (i 0):=Xb g1 (by kernel_rfl) tabOk mok1 10001 zf311 (by kernel_rfl)
theorem zy331:MemoFact Tryz.prog yZ [(G zw298)] zv314:=Xb g1 (by kernel_rfl) tabOk mok1 10001 zf330 (by kernel_rfl)
theorem mok2:MemoOk Tryz.prog g2.memo:=xE (l:=kQ) (List.forall_mem_cons.2 ⟨zy331,fun _ h=>by cases h⟩) (xE (l:=Yr) (List.forall_mem_cons.2 ⟨zy312,fun _ h=>by cases h⟩) (xE (l:=zH) (List.forall_mem_cons.2 ⟨zy293,fun _ h=>by cases h⟩) (xE (l:=uz) (List.forall_mem_cons.2 ⟨zy283,fun _ h=>by cases h⟩) (V1 _))))
theorem k_wreckagelaw35_alive:Known Tryz.prog F_wreckagelaw35_alive true:=z8z g2 (by kernel_rfl) tabOk mok2 10001 top
end Go.Proofs.XW
end
section
namespace Go.Proofs.W
open Go.Vs Go.Vs.U
set_option maxRecDepth 100000
theorem tab0Ok:TabOk Tryz.prog tab0:=by
 intro f afn h
 unfold tab0 at h
 split at h
 ·exact tab1 (n:=vD) Tryz.func5 (by kernel_rfl) h
 ·exact tab1 (n:=n_again_Exchange) Tryz.func18 (by kernel_rfl) h
 ·exact tab1 (n:=TQ) Tryz.func19 (by kernel_rfl) h
 ·exact tab1 (n:=Za) Tryz.func22 (by kernel_rfl) h
 ·exact tab1 (n:=Zb) Tryz.func23 (by kernel_rfl) h
 ·exact tab1 (n:=n_wreckageref25_Bytes) Tryz.func24 (by kernel_rfl) h
 ·exact tab1 (n:=QQ) Tryz.func25 (by kernel_rfl) h
 ·exact tab1 (n:=n_parse_Dump) Tryz.func26 (by kernel_rfl) h
 ·exact tab1 (n:=n_section_Read) Tryz.func27 (by kernel_rfl) h
 ·exact tab1 (n:=n_again_find) Tryz.func48 (by kernel_rfl) h
 ·exact tab1 (n:=n_section_Write) Tryz.func49 (by kernel_rfl) h
 ·exact tab1 (n:=yK) Tryz.func50 (by kernel_rfl) h
 ·exact tab1 (n:=qQ) Tryz.func53 (by kernel_rfl) h
 ·exact tab1 (n:=jy) Tryz.func54 (by kernel_rfl) h
 ·exact tab1 (n:=Z9) Tryz.func55 (by kernel_rfl) h
 ·exact tab1 (n:=n_wreckageref25_four) Tryz.func56 (by kernel_rfl) h
 ·exact tab1 (n:=n_wreckageref01_On) Tryz.func57 (by kernel_rfl) h
 ·exact tab1 (n:=n_section_Check) Tryz.func58 (by kernel_rfl) h
 ·exact tab1 (n:=n_bytes_Clone) Tryz.func59 (by kernel_rfl) h
 ·exact tab1 (n:=n_bytes_HasPrefix) Tryz.func66 (by kernel_rfl) h
 ·exact tab1 (n:=n_crc_Table) Tryz.func67 (by kernel_rfl) h
 ·exact tab1 (n:=n_crc_Sum) Tryz.func68 (by kernel_rfl) h
 ·exact tab1 (n:=n_section_number) Tryz.func69 (by kernel_rfl) h
 ·exact tab1 (n:=n_section_ordered) Tryz.func70 (by kernel_rfl) h
 ·exact tab1 (n:=n_slices_IndexFunc_api_Section_api_Section) Tryz.func101 (by kernel_rfl) h
 ·exact tab1 (n:=n_again_find_1) Tryz.func102 (by kernel_rfl) h
 ·exact tab1 (n:=n_section_fixed) Tryz.func103 (by kernel_rfl) h
 ·exact tab1 (n:=n_wreckageref02_Little) Tryz.func113 (by kernel_rfl) h
 ·exact tab1 (n:=n_wreckageref01_Table) Tryz.func114 (by kernel_rfl) h
 ·exact tab1 (n:=n_section_length) Tryz.func115 (by kernel_rfl) h
 ·exact tab1 (n:=n_bytes_Equal) Tryz.func142 (by kernel_rfl) h
 ·exact tab1 (n:=n_crc_turn) Tryz.func143 (by kernel_rfl) h
 ·exact tab1 (n:=n_crc_Next) Tryz.func144 (by kernel_rfl) h
 ·exact tab1 (n:=n_wire_Fixed) Tryz.func173 (by kernel_rfl) h
 ·exact tab1 (n:=n_wreckageref01_Element) Tryz.func178 (by kernel_rfl) h
 ·exact tab1 (n:=n_crc_check) Tryz.func194 (by kernel_rfl) h
 ·exact tab1 (n:=n_crc_steps) Tryz.func195 (by kernel_rfl) h
 ·exact tab1 (n:=n_wire_wide) Tryz.func242 (by kernel_rfl) h
 ·cases h
theorem k_al:Known Tryz.prog 21 true:=Go.Proofs.XW.k_wreckagelaw35_alive
theorem tabOk:TabOk Tryz.prog tab:=by
 intro f afn h
 unfold tab at h
 split at h
 ·rename_i e;subst e;exact tab2 k_al h
 exact tab0Ok f afn h
end Go.Proofs.W
end
section
namespace Go.Vs
section
variable {P : Program} {n t : Nat} {xs : List AV}
def fieldI (P:Program) (t i:Nat):Option (Nat×Nat):=
 match P.underlying t with
 |some (.struct fs)=>(fs[i]?).map fun f=>(f.type,f.offset)
 |_=>none
theorem UX {i ft off c:Nat} (h:Typed P (n+1) t xs) (e:fieldI P t i=some (ft,off)) (hc:P.cellsOf ft=c):Typed P n ft ((xs.drop off).take c):=by
 unfold fieldI at e
 split at e
 ·rename_i fs hu
  simp only[Typed,hu] at h
  simp only[w00,Prod.mk.injEq] at e
  obtain⟨f,hf,rfl,rfl⟩:=e
  have:=h.2 f (by simpa using Array.mem_of_getElem? hf)
  rw[hc] at this
  exact this
 ·cases e
theorem z9z {c:Nat} (h:Typed P (n+1) t xs) (e:(fieldI P t 0).isSome=true) (hc:P.cellsOf t=c):xs.length=c:=by
 unfold fieldI at e
 split at e
 ·rename_i fs hu
  simp only[Typed,hu] at h
  rw[←hc];exact h.1
 ·cases e
theorem z3U {k:IntKind} (h:Typed P (n+1) t xs) (hu:P.underlying t=some (.int k)): ∃i,xs=[.int k i]∧(Lit.int k i).wf=true:=by
 simp only[Typed,hu] at h
 exact h
theorem UW {α:Type} {R:α→AV→Prop} {e s:Nat} (h:Typed P (n+1) t xs) (hu:P.underlying t=some (.slice e)) (hs:P.cellsOf e=s) (hR: ∀y,IsElem P e y→Typed P n e y.cells→ ∃d,R d y): ∃d y,xs=[y]∧IsSl R s d y:=by
 simp only[Typed,hu] at h
 rcases h with rfl|⟨ys,rfl,hl,hy⟩
 ·exact⟨[],_,rfl,.nil s⟩
 ·obtain⟨d,hd⟩:=All2.of_each (R:=R) ys fun y hm=>hR y (hy y hm).1 (hy y hm).2
  refine⟨d,_,rfl,?_⟩
  rw[hs]
  exact .mk hd (by rw[←hd.len];exact hl)
theorem zcC {n:Int} (h:(Lit.int .u8 n).wf=true):inU8 n:=by
 simp[Lit.wf,IntKind.min,IntKind.max,IntKind.signed,IntKind.bits] at h
 unfold inU8;omega
theorem z4e {α:Type} {R:α→AV→Prop} {W:α→Prop} {s:Nat} {xs:List α} {y:AV} (h:IsSl (fun d y=>R d y∧W d) s xs y):IsSl R s xs y∧ ∀x∈xs,W x:=by
 refine⟨h.mono fun _ _ _ h=>h.1,fun x hx=> ?_⟩
 obtain⟨i,hi,rfl⟩:=List.mem_iff_getElem.1 hx
 exact(h.nth hi).2
theorem uL: ¬Typed P 0 t xs:=fun h=>h
theorem zbx {e:Nat} {y:AV} (h:IsElem P e y) (ha:aggT P e=some true): ∃cs,y= .agg cs:=by
 unfold IsElem at h;rw[if_pos ha] at h;exact h
theorem Yy {e:Nat} {y:AV} (h:IsElem P e y) (ha:aggT P e=some false):y.cells=[y]:=by
 unfold IsElem at h;rw[if_neg (by rw[ha];simp)] at h;exact h
end
end Go.Vs
end
section
namespace Go.Proofs.W
open Go.Vs
set_option maxRecDepth 100000
set_option linter.unusedVariables false
set_option linter.unusedSimpArgs false
theorem rd5 (n:Nat) (xs:List AV) (h:Typed Tryz.prog n 5 xs): ∃d y,xs=[y]∧IsK .u8 d y∧inU8 d:=by
 cases n with
 |zero=>exact absurd h uL
 |succ n=>obtain⟨i,rfl,hw⟩:=z3U h Tryz.underlying5;exact⟨i,_,rfl,rfl,zcC hw⟩
theorem rdb30 (n:Nat) (y:AV) (h1:IsElem Tryz.prog 5 y) (h:Typed Tryz.prog n 5 y.cells): ∃d,IsByte d y∧True:=by
 have hc:=Yy h1 (by kernel_rfl)
 cases n with
 |zero=>exact absurd h uL
 |succ n=>
  obtain⟨i,hi,hw⟩:=z3U h Tryz.underlying5
  rw[hc] at hi
  injection hi with hi _
  subst hi
  obtain⟨h0,h1⟩:0≤i∧i<256:=by simp[Lit.wf,IntKind.min,IntKind.max,IntKind.signed,IntKind.bits] at hw;omega
  exact⟨UInt8.ofNat i.toNat,by unfold IsByte;simp;omega,trivial⟩
theorem zat:Tryz.prog.cellsOf 5=1:=by kernel_rfl
theorem rd30 (n:Nat) (xs:List AV) (h:Typed Tryz.prog n 30 xs): ∃d y,xs=[y]∧IsSl IsByte 1 d y∧ ∀x∈d,(fun _=>True) x:=by
 cases n with
 |zero=>exact absurd h uL
 |succ n=>
  obtain⟨d,y,h1,h2⟩:=UW (R:=fun d y=>IsByte d y∧(fun _=>True) d) h Tryz.underlying30 zat (fun y h1 h2=>rdb30 n y h1 h2)
  exact⟨d,y,h1,z4e h2⟩
theorem cells66:Tryz.prog.cellsOf 66=2:=by kernel_rfl
theorem rd66 (n:Nat) (xs:List AV) (h:Typed Tryz.prog n 66 xs): ∃d,IsSection d (.agg xs)∧WfSection d:=by
 cases n with
 |zero=>exact absurd h uL
 |succ n=>
  have hl:=z9z h (by kernel_rfl) cells66
  match xs,hl with
  | [c0,c1],_=>
   have k0:=rd5 n _ (UX h (i:=0) (ft:=5) (off:=0) (c:=1) (by kernel_rfl) (by kernel_rfl))
   simp only[List.drop_succ_cons,List.drop_zero,List.take_succ_cons,List.take_zero] at k0
   obtain⟨d0,y0,e0,p0,w0⟩:=k0
   injection e0 with e0 _
   subst e0
   cases p0
   have k1:=rd30 n _ (UX h (i:=1) (ft:=30) (off:=1) (c:=1) (by kernel_rfl) (by kernel_rfl))
   simp only[List.drop_succ_cons,List.drop_zero,List.take_succ_cons,List.take_zero] at k1
   obtain⟨d1,y1,e1,p1,w1⟩:=k1
   injection e1 with e1 _
   subst e1
   exact⟨⟨d0,d1⟩,⟨_,rfl,p1⟩,⟨w0,w1⟩⟩
theorem z8V:Tryz.prog.cellsOf 66=2:=by kernel_rfl
theorem rd56 (n:Nat) (xs:List AV) (h:Typed Tryz.prog n 56 xs): ∃d y,xs=[y]∧IsSl IsSection 2 d y∧ ∀x∈d,WfSection x:=by
 cases n with
 |zero=>exact absurd h uL
 |succ n=>
  obtain⟨d,y,h1,h2⟩:=UW (R:=fun d y=>IsSection d y∧WfSection d) h Tryz.underlying56 z8V (fun y h1 h2=>by
   obtain⟨cs,rfl⟩:=zbx h1 (by kernel_rfl)
   exact rd66 n cs h2)
  exact⟨d,y,h1,z4e h2⟩
theorem z6i:plainAll Tryz.prog [30,5,66,56]=true:=by kernel_rfl
end Go.Proofs.W
end
