/-
  AgainParts holds for every input: its law function returns true, and the arguments read as they did. No condition besides those of the row.
-/
import Derived.Test.YtmncncdmbjngmaaB3
import Derived.Test.YtmncncdmbjngmaaRows
set_option maxHeartbeats 64000000
set_option linter.unusedVariables false
set_option linter.unusedSimpArgs false
open Nat renaming zero_le → w0f
section
namespace Go.Proofs.Ytmncncdmbjngmaa
set_option maxRecDepth 100000
set_option linter.unusedSimpArgs false
open Go.Vs Go.ChangeShapes Go.WideShapes Go.ChangeAt Go.RowKit Go.Proofs.W
theorem law (ys:List AV) (h:ArgsT Try.prog [22,22,5] ys): ∃m',CALL tab 3 ys Mem.zero=some (.bool true,m'):=by
 obtain⟨x0,r0,rfl,g0,x1,r1,rfl,g1,x2,r2,rfl,g2,gz⟩:=h
 have gz:r2=[]:=gz
 subst gz
 obtain⟨e0,n0,t0⟩:=g0
 rw[qw e0 (by kernel_rfl)] at t0
 obtain⟨v0,u0,c0,k0,w0⟩:=rd22 n0 _ t0
 injection c0 with c0 _
 subst c0
 obtain⟨e1,n1,t1⟩:=g1
 rw[qw e1 (by kernel_rfl)] at t1
 obtain⟨v1,u1,c1,k1,w1⟩:=rd22 n1 _ t1
 injection c1 with c1 _
 subst c1
 obtain⟨e2,n2,t2⟩:=g2
 rw[qw e2 (by kernel_rfl)] at t2
 obtain⟨v2,u2,c2,k2,w2⟩:=rd5 n2 _ t2
 injection c2 with c2 _
 subst c2
 obtain rfl:=k2
 obtain⟨q2,rfl⟩: ∃q:Nat,v2=(q:Int):=⟨v2.toNat,by unfold inU8 at w2;omega⟩
 obtain⟨k,hk⟩:=ZR v0 v1 x0 x1 q2 k0 k1 Mem.zero (w0f _)
 exact⟨_,hk⟩
theorem Try.own:ownKnob Try.prog.godebug=none:=by kernel_rfl
theorem Try.laidOut:laidOutB Try.prog=true:=by kernel_rfl
theorem Uv (os:Os) (started:os.Started) (H:Type) (enc:TypeId×Value→H):
  ReturnsInHanded {} Try.checked os 3 .any (Rows.againPartsSpec.pre6 enc Try.prog Try.f3 Rows.againPartsRow.domain false) (Rows.againPartsSpec.post enc Try.prog Try.f3 false true false false):=by
 refine returnsInHanded_of_change (C:=Try.checked) Try.own started (by kernel_rfl) Try.func3
  (ChangeSpec.witness6 (enc:=enc) (C:=Try.checked) false ⟨#[],#[.slice none 0 0,.slice none 0 0,.int .u8 0],[]⟩ 12 (by kernel_rfl) (by kernel_rfl) (by kernel_rfl) (by kernel_rfl)) ?_
 intro W base args ds gs before hval hW _ _
 exact Uk (P:=Try.prog) (tab:=tab) (S:=[5,22]) (tb:=4) (by kernel_rfl) tabOk Yx Try.laidOut rfl (by kernel_rfl) rfl Try.underlying4
  (fun ds hd=>by
   match ds,hd with
   | [d1,d2,d3],_=>rfl) law hval hW
theorem againParts_holds:Rows.AgainPartsSaid:=
 OpenClaim.holds_of_wide 3 Try.f3 rfl rfl rfl rfl rfl rfl rfl ⟨rfl,rfl,rfl,rfl,rfl⟩ rfl rfl rfl rfl rfl (by kernel_rfl) Try.func3 (by kernel_rfl)
  (of_decide_eq_true (by kernel_rfl)) (by unfold Func.isWrapper;first|(rw[if_pos (by decide+kernel)];kernel_rfl)|(rw[if_neg (by decide+kernel)];exact⟨rfl,rfl⟩))
  (fun os started H enc _=>Uv os started H enc)
end Go.Proofs.Ytmncncdmbjngmaa
end
