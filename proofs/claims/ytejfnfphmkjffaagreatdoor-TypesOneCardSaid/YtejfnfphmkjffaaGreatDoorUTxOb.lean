/-
  A part of the proof. Conditions: none.
-/
import Derived.Test.YtejfnfphmkjffaaGreatDoorUT2
set_option linter.unusedSimpArgs false
set_option linter.unusedVariables false
noncomputable section
section
set_option maxRecDepth 100000
open Go.Proofs
namespace Go.Cm
section
def Jch (k:Nat):Prop:=(9<=k/\k<=17)\/k=20
section
variable {t:Tr}{o:List Int}(g:GoodT t o)
include g
theorem infer_fr (hE:(X4 t o).2=0):FR t o (Km t o)/\((Km t o).bad=none->∀j,j<t.nodes.length->(Km t o).dn.getD j false=true):=by
 obtain⟨h1,h2,_,h4⟩:=JgI g hE t.nodes.length (Nat.le_refl _);have h5:=span_fr (Jdl g hE (t.nodes.length+1)) (doF_fr g hE (t.nodes.length+1)) start_fi start_fm start_fr start_uf (a:=0) (m:=t.nodes.length) (by omega) (start_pre g) t.nodes.length (Nat.le_refl _);rw[span_zero]at h4 h5;refine⟨h5,λhb j hj=>?_⟩;have:=h4 hb j hj;rw[Nat.zero_add]at this;exact this
theorem opr_bad (hE:(X4 t o).2=0){i j:Nat}(hi:i<t.nodes.length)(hk:Jch (nd t i).k)(hj:j<(nd t i).kids.length)(hx:(nd t (JL t i j)).k=2):(Km t o).bad≠none:=λhb=>by
 obtain⟨hR,hd⟩:=infer_fr g hE;have hd:=hd hb;have hm:=(JF g hi hj).2.1;have fH:JG (Km t o).got (JL t i j)=[.bool]:=by
  obtain⟨l,h1,h2⟩:=hR.rule (JL t i j) (by omega) (hd _ (by omega)) (by omega) (by omega);rw[h2 λCg=>by have:=Cg.1;omega];rw[JS,hx]at h1;exact(Option.some.inj h1).symm
 have hK:KK t (Km t o).got i j=[.bool]:=by
  unfold KK;rw[if_pos hj,fH]
 obtain⟨l,h1,_⟩:=hR.rule i hi (hd i hi) (by unfold Jch at hk;omega) (by unfold Jch at hk;omega);rw[JS]at h1;have Ad:(nd t i).kids.length<=2/\((nd t i).k=20->(nd t i).kids.length=1):=by
  rcases hk with hk|hk
  ·exact⟨by rw[kids_two g hi (by omega)];omega,λe=>by omega⟩
  ·have:=Jbi g hi (.inl ⟨by omega,by omega⟩);exact⟨by omega,λ_=>this⟩
 have Ah:¬(KK t (Km t o).got i 0 == [TyX.int] && KK t (Km t o).got i 1 == [TyX.int])=true:=λh=>by
  simp only[Bool.and_eq_true,beq_iff_eq]at h;rcases (show j=0\/j=1 by omega) with rfl|rfl
  ·rw[hK]at h;exact absurd h.1 (by decide)
  ·rw[hK]at h;exact absurd h.2 (by decide)
 have Bo:∀{c:Prop} [Decidable c] {x:TL},(if c then some x else none)=some l->c:=λh=>by
  split at h
  ·assumption
  ·cases h
 by_cases e1:9<=(nd t i).k/\(nd t i).k<=12
 ·rw[rk_lt e1]at h1;exact Ah (Bo h1)
 ·by_cases e2:13<=(nd t i).k/\(nd t i).k<=17
  ·rw[rk_add e2]at h1;exact Ah (Bo h1)
  ·have e3:(nd t i).k=20:=by unfold Jch at hk;omega
   obtain rfl:j=0:=by have:=Ad.2 e3;omega
   rw[e3,rk_neg]at h1;have:=Bo h1;rw[hK]at this;exact absurd this (by decide)
end
end
end Go.Cm
end
end
