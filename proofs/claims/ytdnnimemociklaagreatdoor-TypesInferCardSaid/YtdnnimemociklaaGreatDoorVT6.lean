/-
  A part of the proof. Conditions: none.
-/
import Derived.Test.YtdnnimemociklaaGreatDoorVT5
set_option linter.unusedSimpArgs false
set_option linter.unusedVariables false
open Go.Proofs.Tryz renaming prog->Gf
open Int renaming cast_ofNat_Int->Gi,toNat_natCast->Gp
open List renaming map_cons->Ga,set_cons_zero->Gc,map_nil->Gb,set_cons_succ->Gg,drop_zero->Gd,take_succ_cons->Gl,mem_singleton->Gj,getD_cons_zero->Gq,length_nil->Gn,take_zero->Gm,length_cons->Gr,getD_eq_getElem?_getD->Gv,getElem?_eq_getElem->Gy,length_append->Gw,all_eq_true->Gx,mem_range->Gu,take_of_length_le->GH,take_length->GI,all_cons->GJ,length_take->GM,getElem_mem->GN,all_nil->GK,range->Gz,length_eq_one_iff->GY,mem_map->GV,length_pos_iff->GZ,length_map->G5,headD_cons->G6,all_append->G7
open Bool renaming true_and->Gs,not_false->Gt,eq_false_iff->GA,and_eq_true->GD,false_and->GG,and_true->GL,not_true->GQ,eq_iff_iff->GX,and_assoc->G8,true_or->G9
open Nat renaming zero_add->Gh,lt_or_ge->GR,reduceEqDiff->Ha
open Option renaming getD_some->GU,isSome_iff_exists->Hd
noncomputable section
section
set_option maxRecDepth 100000
set_option maxHeartbeats 40000000
open Go.Proofs
namespace Go.Cm
variable {a:Option TyX}{l:TL}{f i m:Nat}{t:Tr}{o:Lu}{R:RS}{d:Option Nat}{ge:Option (Nat×Bool)}{X:Lt}{els:LM}{b:Bool}
theorem izo {a:Int}:iz [a]=[[.int .i64 a]]:=rfl
theorem one_kid {l:Lu}(h:l.length=1):∃a,l=[a]:=by
 match l,h with
 |[a],_=>exact⟨_,rfl⟩
theorem refOther2 (t:Tr)(x:Nd)(Bh:x.kids.length<=30)(hk:x.k=60\/x.k=61):Fn Gf 74 [t.cv,.agg x.cv] (S (tyT (if x.k=60 then .int else .bool))):=by
 obtain⟨k,text,n,kids,pl⟩:=x
 dsimp only at *
 rcases hk with rfl|rfl
 all_goals
  refine fcS c74_ok λN0=>?_
  have Af:(iz kids).length=kids.length:=Jf;simp only[c74,go_sem,Tr.cv,Tr.row,Ja,Nd.cv,Gi,Af];exact⟨Jg,rfl⟩
theorem refOtherN (t:Tr)(x:Nd)(hk:x.k=62\/x.k=63){a:Nat}{u:TyX}(ha:x.kids=[(a:Int)])(hu:Fn Gf 47 [t.cv,.int .i64 (a:Int)] (S (tyT u)))(hl:(tyT u).length<=100000):Fn Gf 74 [t.cv,.agg x.cv] (S (tyT (if x.k=62 then .arr u else .str u))):=by
 obtain⟨k,text,n,kids,pl⟩:=x
 dsimp only at *
 subst ha;have e1:tyT (.arr u)=[91]++tyT u++[93]:=rfl;have e2:tyT (.str u)=[115,116,114,101,97,109,32]++tyT u:=rfl;rcases hk with rfl|rfl
 ·rw[if_pos rfl,e1];clear e1 e2;generalize tyT u=ua at *;refine fcS c74_ok λN0=>?_
  repeat first|refine⟨by first|omega|decide|exact Jg,?_⟩|refine J9 (.inl rfl) (by assumption) ?_|refine J3 (by assumption) ?_|refine JP Jm vk ?_|simp only[c74,go_sem,Tr.cv,Tr.row,Ja,Nd.cv,Gi,izo]
  all_goals first|omega|rfl|exact⟨om,rfl⟩|exact Jg|decide|exact⟨vk,vk⟩
 ·rw[if_neg vk,e2];clear e1 e2;generalize tyT u=ua at *;refine fcS c74_ok λN0=>?_
  repeat first|refine⟨by first|omega|decide|exact Jg,?_⟩|refine J9 (.inl rfl) (by assumption) ?_|refine J3 (by assumption) ?_|refine JP Jm vk ?_|simp only[c74,go_sem,Tr.cv,Tr.row,Ja,Nd.cv,Gi,izo]
  all_goals first|omega|rfl|exact⟨om,rfl⟩|exact Jg|decide|exact⟨vk,vk⟩
theorem refTextK (t:Tr)(hi:i<t.nodes.length)(u:Lv)(hk:40<=(nd t i).k)(hO:Fn Gf 74 [t.cv,.agg (nd t i).cv] (S u)):Fn Gf 47 [t.cv,.int .i64 (i:Int)] (S u):=by
 have hg:=JZ hi;have hE:=JeG (nd t i).k;have hN:inN 1 29 (nd t i).k=false:=by unfold inN;simp;omega
 rw[hN]at hE;generalize nd t i=x at *;obtain⟨k,text,n,kids,pl⟩:=x
 dsimp only[Nd.cv]at *
 refine fcS c47_ok λN0=>?_
 have Ai:∀m:Nat,m<40->((k:Int) == (m:Int))=false:=λm hm=>kb om
 have n1:=Ai 1 vk;have n2:=Ai 2 vk;have n3:=Ai 3 vk;have n4:=Ai 4 vk;have n18:=Ai 18 vk;have n19:=Ai 19 vk;have n20:=Ai 20 vk;have n21:=Ai 21 vk;have n22:=Ai 22 vk;have n23:=Ai 23 vk;have n24:=Ai 24 vk;have n25:=Ai 25 vk;have n26:=Ai 26 vk;have n27:=Ai 27 vk;have n28:=Ai 28 vk;have n29:=Ai 29 vk;simp only[Gi]at n1 n2 n3 n4 n18 n19 n20 n21 n22 n23 n24 n25 n26 n27 n28 n29;simp only[c47,go_sem,Tr.cv,Tr.row,Ja,Nd.cv,Gi,hg,n1,n2,n3,n4,n18,n19,n20,n21,n22,n23,n24,n25,n26,n27,n28,n29]
 repeat (refine⟨by first|omega|decide|exact Jg,?_⟩)
 refine J3 hE ?_;simp only[go_sem,Tr.row,Nd.cv,hg];refine J3 hO ?_;simp only[go_sem]
 all_goals rfl
section
variable(g:GoodT t o)(ht:t.Fit)
include g ht
theorem YH:∀(i:Nat),i<t.nodes.length->60<=(nd t i).k->(nd t i).k<=63->Fn Gf 47 [t.cv,.int .i64 (i:Int)] (S (tyT (tyN t i))):=by
 intro i
 induction i using Nat.strongRecOn with
 |_ i ih=>
  intro hi h1 h2;have Ag:=g.many;refine refTextK t hi _ om ?_;rw[tyN_eq g hi h1 h2];by_cases hk:(nd t i).k=60\/(nd t i).k=61
  ·have h:=refOther2 t (nd t i) (JbR ht hi).kidn hk;rcases hk with hk|hk
   ·rw[if_pos hk]at h|-;exact h
   ·rw[iN7]at h;rw[iN7,if_pos hk];exact h
  ·obtain⟨q1,q2,q3,q4⟩:=Ym g hi (.inr (.inl om));have hl:=Xt g hi (.inr (.inr (.inr om)));obtain⟨a,ha⟩:=one_kid hl;have hr:=g.kid hi (k:=a) (by change a∈(nd t i).kids;rw[ha];simp);obtain⟨a,rfl⟩:∃a':Nat,a=a':=⟨a.toNat,om⟩;have De:Ju t i 0=a:=by unfold Ju;rw[ha];rfl
   rw[De]at q2 q3 q4|-;have h:=refOtherN t (nd t i) om ha (ih a q2 om q3 q4) (by have:=XW (t:=t) (i:=a) om;omega);rcases (show (nd t i).k=62\/(nd t i).k=63 by omega) with Au|Au
   ·rw[if_pos Au]at h;rw[iN7,iN7,if_pos Au];exact h
   ·rw[iN7]at h;rw[iN7,iN7,iN7];exact h
end
section
variable {P:Program}{E:Env}{n0:Nat}{N:Fr}{Q:Exit->Ls->Lt->Prop}{H:Lt}{T:Ls}{k:LJ}{of:Lu}{R':RS}
theorem Kl{ags:LK}{l:LB}{args:Ls}{res:CV}(hM:RMe P f args t of R R' res)(hg:GOk T ge)(ha:ags.map (Kb T)=.ptr 0 0 0::args)(hH:H=hpR t of R X)(hc:Jl args=true)(hr:res.closed=true)(h:Ky P E n0 N Q (.ops l::k) (put T d res) (hpR t of R' X)):Ok P E n0 N Q (.ops (⟨d,.call f ags,ge⟩::l)::k) T H:=by subst hH;refine Kq hg (by rw[ha];exact hM.on hc hr) ?_;rintro v H' ⟨rfl,rfl⟩;exact h
theorem JW{z:Nat}(id:Nat)(hH:H=hpR t of R X)(hX:X[id]? = some (.arr z els))(hc:Jq els=true)(h:Ky P E n0 N Q k (JM (id+4) z els T) (hpR t of R ((X.map (Kn (id+4) z els)).set id .dead))):Ok P E n0 N Q k T H:=by subst hH;refine Je (id:=id+4) (z:=z) (els:=els) hX hc ?_;rw[frz_hpR];exact h
theorem four {α:Type}{H:List α}{a b c d:α}(h0:H[0]? = some a)(h1:H[1]? = some b)(h2:H[2]? = some c)(h3:H[3]? = some d):∃X,H=a::b::c::d::X:=by
 match H,h0,h1,h2,h3 with
 |a'::b'::c'::d'::X,h0,h1,h2,h3=>simp at h0 h1 h2 h3;exact⟨X,by rw[h0,h1,h2,h3]⟩
variable {l:LB}{bs:Lx}
theorem vy_rm{ags:LK}{args:Ls}{res:CV}(hM:RMe P f args t of R R res)(hg:GOk T ge)(ha:ags.map (Kb T)=.ptr 0 0 0::args)(hH:H=hpR t of R X)(hc:Jl args=true)(hr:res.closed=true)(h:vdy P E n0 N Q k l bs (put T d res) H):vdyR P E n0 N Q none d (.call f ags) ge 4 k l bs T H:=by
 refine⟨res,H,?_,h⟩;show HS P E _ T H res H (.on [1,2,3,4,5],.on []);subst hH;refine⟨λ_ _=>rfl,λT2 H2 ag hx=>?_⟩;have DU:∀i,i<4->H2[i]? = (hpR t of R X)[i]?:=λi hi=>by have:=hx (i+1) (by simp only[Foot.has,List.mem_cons,List.not_mem_nil,or_false];omega);simpa [hat]using this
 obtain⟨X2,rfl⟩:=four (DU 0 vk) (DU 1 vk) (DU 2 vk) (DU 3 vk);have e2:ags.map (Kb T)=ags.map (Kb T2):=Xe (Jj ag).2;refine⟨_,λy hy=>(by cases hy),λ_ _=>rfl,λn0 N Q k l Ao=>Jda (Ya ag hg) (by rw[<-e2,ha];exact hM.on (X:=X2) hc hr) ?_⟩;rintro v' H' ⟨rfl,rfl⟩;exact Ao
end
section
variable{of:Lu}
def RS.fail (R:RS)(i:Nat):RS:=if R.bad<0 then { R with bad:=i } else R
theorem Jck:RMe Gf 112 [.int .i64 (i:Int)] t of R (R.fail i) (.tup []):=by
 obtain⟨got,dn,fg,bad⟩:=R;refine QG (Ke c112_ok λN=>?_);unfold RS.fail
 dsimp only
 by_cases h:bad<0
 ·have d:(bad<0)=True:=eq_true h;rw[if_pos h];simp only[c112,go_sem,hpR,Qb,d]
  repeat refine anO ?_
  exact .done (wk.refl _)
 ·have d:(bad<0)=False:=eq_false h;rw[if_neg h];simp only[c112,go_sem,hpR,Qb,d];exact .done (wk.refl _)
theorem rmOne(hi:i<t.nodes.length)(hl:R.got.length=t.nodes.length):RMe Gf 110 [.int .i64 (i:Int)] t of R R (S (opT (Ku (Jt R.got i)))):=by
 have hg:=Qc (l:=R.got) (i:=i) om;have AL:(gz R.got).length=t.nodes.length:=by rw[QH,hl]
 refine QG (Ke c110_ok λN=>?_);generalize Jt R.got i=l at *;rcases l with _|⟨a,_|⟨b,l⟩⟩
 ·simp only[c110,go_sem,hpR,Qb,hg,AL,txV,txz,Gb,Gn];exact⟨⟨om,om⟩,om,.done (wk.refl _)⟩
 ·have d1:(((1:Nat):Int) != 1)=false:=rfl;simp only[c110,go_sem,hpR,Qb,hg,AL,txV,txz,Gb,Ga,Gr,Gn,d1]
  repeat refine anO ?_
  exact .done (wk.refl _)
 ·have d1:(((l.length+1+1:Nat):Int) != 1)=true:=by simp;omega
  simp only[c110,go_sem,hpR,Qb,hg,AL,txV,txz,Ga,Gr,Gn,G5,d1];exact⟨⟨om,om⟩,om,.done (wk.refl _)⟩
theorem rmKid(hi:i<t.nodes.length)(hl:R.got.length=t.nodes.length):RMe Gf 103 [.int .i64 (i:Int)] t of R R (S (opT (Ku (Jt R.got i)))):=by refine QG (Ke c103_ok λN=>?_);simp only[c103,go_sem,hpR,Qb];refine Kl (X:=[]) (rmOne hi hl) (.inl rfl) rfl rfl rfl rfl ?_;simp only[go_sem];exact .done (wk.refl _)
end
def cS (l:Lv):Nat:=(l.filter λb=>b == 91 || b == 115).length
theorem cS_app (a b:Lv):cS (a++b)=cS a+cS b:=by simp[cS]
theorem cS_ty:∀a,cS (tyT a)+1=tyP a
 |.int=>rfl
 |.bool=>rfl
 |.arr a=>by have:=cS_ty a;rw[tyT,tyP,<-this,show (91::(tyT a++[93]):Lv)=[91]++tyT a++[93] from rfl,cS_app,cS_app,show cS [91]=1 from rfl,show cS [93]=0 from rfl];omega
 |.str a=>by have:=cS_ty a;rw[tyT,tyP,<-this,cS_app,show cS Xh=1 from rfl];omega
theorem cS_take {l:Lv}(h:i<l.length):cS (l.take (i+1))=cS (l.take i)+if (l.getD i 0 == 91 || l.getD i 0 == 115)=true then 1 else 0:=by
 rw[List.take_succ_eq_append_getElem h,cS_app,show l.getD i 0=l[i] by rw[Gv,Gy h];rfl]
 congr 1
 simp only[cS,List.filter_cons,List.filter_nil]
 split <;> rfl
theorem cS_le (l:Lv):cS l<=l.length:=List.length_filter_le _ _
theorem refPartsL (l:Lv)(hl:l.length<=100000):Fn Gf 155 [S l] (.int .i64 ((cS l+1:Nat):Int)):=by
 refine Jc c155_ok rfl rfl λN=>?_
 simp only[c155,go_sem];refine JL (I:=λi:Nat=>i<=l.length) (inv:=λi=>gp [(0,S l),(2,.int .i64 ((cS (l.take i)+1:Nat):Int)),(0,.int .i64 (i:Int))] 19) (hp:=λ_=>[]) (μ:=λi=>l.length-i) 0 om ?_ rfl ?_
 ·simp[forget,gp,cS]
 ·intro i hi;have h0:=cS_le (l.take i);rw[GM]at h0;by_cases Ab:i<l.length
  ·have d1:=dtT i l.length;have Al:=cS_take Ab;have q1:(((l.getD i 0).toNat:Int) == 91)=(l.getD i 0 == 91):=deq 91 vk _;have q2:(((l.getD i 0).toNat:Int) == 115)=(l.getD i 0 == 115):=deq 115 vk _
   cases h1:l.getD i 0 == 91 with
   |true=>
    rw[h1]at q1 Al;rw[if_pos (G9 _)]at Al;simp only[go_sem,d1,q1]
    repeat refine And.intro (by first|omega|exact⟨om,om⟩|exact Jg) ?_
    refine⟨i+1,om,om,?_⟩;rw[Al];simp[forget]
   |false=>
    rw[h1]at q1 Al
    cases h2:l.getD i 0 == 115 with
    |true=>
     rw[h2]at q2 Al;rw[if_pos vk]at Al;simp only[go_sem,d1,q1,q2]
     repeat refine And.intro (by first|omega|exact⟨om,om⟩|exact Jg) ?_
     refine⟨i+1,om,om,?_⟩;rw[Al];simp[forget]
    |false=>
     rw[h2]at q2 Al;rw[if_neg vk,Nat.add_zero]at Al;simp only[go_sem,d1,q1,q2]
     repeat refine And.intro (by first|omega|exact⟨om,om⟩|exact Jg) ?_
     refine⟨i+1,om,om,?_⟩;rw[Al];simp[forget]
  ·have d1:=dfF i l.length;have Cy:i=l.length:=om
   subst Cy;simp only[go_sem,d1,GI]
theorem refParts4 (a:TyX)(hl:(tyT a).length<=100000):Fn Gf 155 [S (tyT a)] (.int .i64 (tyP a:Int)):=by
 have:=refPartsL (tyT a) hl
 rwa [cS_ty]at this
def spW:Option TyX->Lv×Lv
 |none=>([],[])
 |some .int=>(tyT .int,[])
 |some .bool=>(tyT .bool,[])
 |some (.arr b)=>([91,93],tyT b)
 |some (.str b)=>([115,116,114,101,97,109],tyT b)
theorem JfU {b:TyX}(hl:(tyT b).length<=100000){x y:Lv}{c:Bool}(h:Fn Gf 104 [S (tyT b)] (.tup [S x,S y,.bool c])):∃c':Bool,Fn Gf 154 [S (tyT b)] (.bool c'):=by
 have hp:=refParts4 b hl
 cases c with
 |false=>
  refine⟨false,?_⟩;refine fcS c154_ok λN=>?_
  simp only[c154,go_sem];refine J3 h ?_;simp only[go_sem]
 |true=>
  refine⟨decide ((tyP b:Int)<=20),?_⟩;refine fcS c154_ok λN=>?_
  simp only[c154,go_sem];refine J3 h ?_;simp only[go_sem];refine Kk (gok rfl) hp ?_;simp only[go_sem]
theorem JeC:∀a:TyX,(tyT a).length<=100000->∃c:Bool,Fn Gf 104 [S (tyT a)] (.tup [S (spW (some a)).1,S (spW (some a)).2,.bool c])
 |.int,hl=>by
  refine⟨true,?_⟩;refine fcS c104_ok λN=>?_
  simp only[c104,go_sem,tyT,spW,beq_self_eq_true]
 |.bool,hl=>by
  refine⟨true,?_⟩;refine fcS c104_ok λN=>?_
  simp only[c104,go_sem,tyT,spW,beq_self_eq_true,show (([98,111,111,108]:Lv) == [105,110,116])=false from vk]
 |.arr b,hl=>by
  have hb:(tyT b).length<=100000:=by simp only[tyT,Gr,Gw,Gn]at hl;omega
  obtain⟨c,hc⟩:=JeC b hb;obtain⟨c',hI⟩:=JfU hb hc;refine⟨c',?_⟩;have Et:0<(tyT b).length:=GZ.2 Jeh;obtain⟨l,e,h1,h2,h3,h4⟩:=arr_facts (b:=b);rw[e]at hl|-;have f1:(l == [105,110,116])=false:=by rw[beq_eq_false_iff_ne];rintro rfl;cases h2
  have f2:(l == [98,111,111,108])=false:=by rw[beq_eq_false_iff_ne];rintro rfl;cases h2
  have d1:((2:Int)<(l.length:Int))=True:=J5;have Pn:((l.length:Int)-1)=((l.length-1:Nat):Int):=om
  refine fcS c104_ok λN=>?_
  simp only[c104,go_sem,f1,f2,d1,h2,Pn,h3,show ((((91:UInt8).toNat:Nat):Int) == 91)=true from rfl,show ((((93:UInt8).toNat:Nat):Int) == 93)=true from rfl]
  repeat refine And.intro (by first|omega|exact⟨om,om⟩|exact Jg) ?_
  refine JJ [0,0,0,0,0,0,0,0,0,0,0,0,0,0] Jm vM ?_;simp only[go_sem,Pn,h4]
  repeat refine And.intro (by first|omega|exact⟨om,om⟩|exact Jg) ?_
  refine JdL (.inl rfl) hI ?_;simp only[go_sem,spW]
  try rfl
 |.str b,hl=>by
  have hb:(tyT b).length<=100000:=by simp only[tyT,Xh,Gw]at hl;omega
  obtain⟨c,hc⟩:=JeC b hb;obtain⟨c',hI⟩:=JfU hb hc;refine⟨c',?_⟩;have Et:0<(tyT b).length:=GZ.2 Jeh;obtain⟨l,e,h1,h2,h3,h4⟩:∃l,tyT (.str b)=l/\l.length=(tyT b).length+7/\l.getD 0 0=115/\l.take 7=[115,116,114,101,97,109,32]/\l.drop 7=tyT b:=⟨_,rfl,by simp[tyT,Xh],rfl,rfl,rfl⟩;rw[e]at hl|-;have f1:(l == [105,110,116])=false:=by rw[beq_eq_false_iff_ne];rintro rfl;cases h2
  have f2:(l == [98,111,111,108])=false:=by rw[beq_eq_false_iff_ne];rintro rfl;cases h2
  have d1:((2:Int)<(l.length:Int))=True:=J5;have d2:((7:Int)<(l.length:Int))=True:=J5;refine fcS c104_ok λN=>?_
  simp only[c104,go_sem,f1,f2,d1,d2,h2,h3,beq_self_eq_true,show ((((115:UInt8).toNat:Nat):Int) == 91)=false from rfl]
  repeat refine And.intro (by first|omega|exact⟨om,om⟩|exact Jg) ?_
  refine JJ [0,0,0,0,0,0,0,0] Jm vM ?_;simp only[go_sem,h4,GI]
  repeat refine And.intro (by first|omega|exact⟨om,om⟩|exact Jg) ?_
  refine JdL (.inl rfl) hI ?_;simp only[go_sem,spW]
  try rfl
theorem JeD:∀(a:Option TyX),(opT a).length<=100000->∃c:Bool,Fn Gf 104 [S (opT a)] (.tup [S (spW a).1,S (spW a).2,.bool c])
 |some a,h=>JeC a h
 |none,_=>by
  refine⟨false,?_⟩;refine fcS c104_ok λN=>?_
  simp only[c104,go_sem,opT,spW,Gn,show (([]:Lv) == [105,110,116])=false from rfl,show (([]:Lv) == [98,111,111,108])=false from rfl,show ((2:Int)<((0:Nat):Int))=False from eq_false vk,show ((7:Int)<((0:Nat):Int))=False from eq_false vk]
section
variable{of:Lu}
theorem KN{ρ:Lx}{Y:Lt}(h:(ρ.map λid=>Xk (0::1::2::3::ρ) ((hpR t of R X).getD id .dead))=Y):KD (0::1::2::3::ρ) (hpR t of R X)=hpR t of R Y:=by rw[ren_hpR,h]
def RS.give (R:RS)(i:Nat)(b:Bool)(l:TL):RS:=if (b && Qf l)=true then { R with got:=R.got.set i l } else R.fail i
theorem YG(hi:i<t.nodes.length)(AL:R.got.length=t.nodes.length)(hn:l.length<=1000)(hl:∀a∈l,(tyT a).length<=100000):RMe Gf 105 [.int .i64 (i:Int),.bool b,txV l] t of R (R.give i b l) (.tup []):=by
 have DV:(txz l).length=l.length:=K8;have Ef:(gz R.got).length=t.nodes.length:=by rw[QH,AL]
 refine QG (vfS c105_ok λN=>?_);simp only[c105,go_sem];refine Jr (I:=λj:Nat=>j<=l.length) (inv:=λj=>mkT 36 [(0,.ptr 0 0 0),(1,.int .i64 (i:Int)),(2,.bool (b && Qf (l.take j))),(3,txV l),(8,.int .i64 (j:Int))]) (hp:=λ_=>hpR t of R []) (μ:=λj=>l.length-j) 0 [0,1,2,3] om rfl ?_ ?_ ?_
 ·simp only[JR,Ga,Gb,ren,Jk,Jb (JH l),txV];refine Js ?_;simp[Kh,Ko,Qf,txV]
 ·exact KN (X:=[]) rfl
 ·intro j hj;have Cz:(b && Qf (l.take j))=false\/j=l.length->(b && Qf (l.take j))=(b && Qf l):=λh=>by
   rcases h with h|h
   ·rw[h]
    cases b with
    |false=>rfl
    |true=>
     rw[Gs]at h|-
     cases hf:Qf l with
     |false=>rfl
     |true=>
      have:Qf (l.take j)=true:=by unfold Qf at hf|-;rw[Gx]at hf|-;exact λx hx=>hf x (List.mem_of_mem_take hx)
      rw[this]at h;cases h
   ·rw[h,GI]
  by_cases hc:j<l.length/\(b && Qf (l.take j))=true
  ·obtain⟨h1,h2⟩:=hc;have d1:=dtT j l.length;have hm:l.getD j .int∈l:=by rw[Gv,Gy h1];exact GN h1
   have hp:=refParts4 (l.getD j .int) (hl _ hm);have hx:=Yi h1;have e:(b && Qf (l.take (j+1)))=decide ((tyP (l.getD j .int):Int)<=20):=by rw[JgP h1];unfold Qf at h2|-;rw[G7,<-G8,h2,Gs];simp only[GJ,GK,GL];exact decide_eq_decide.2 om
   simp only[go_sem,DV,d1,h2,txV];simp only[go_sem,DV,hx]
   repeat refine And.intro (by first|omega|exact⟨om,om⟩|exact Jg) ?_
   refine J3 hp ?_;simp only[go_sem]
   repeat refine And.intro (by first|omega|exact⟨om,om⟩|exact Jg) ?_
   refine⟨j+1,[0,1,2,3],om,om,rfl,KN (X:=[]) rfl,?_⟩;rw[e];simp only[JR,Ga,Gb,ren,Jk,Jb (JH l)];refine Js ?_;simp[Kh,Ko,txV]
  ·have h2:=Cz (by
    rcases GR j l.length with h|h
    ·exact .inl (by rw[GA];exact λe=>hc ⟨h,e⟩)
    ·exact .inr om)
   have Ay:(gz R.got).set i [txV l]=gz (R.got.set i l):=gz_set;by_cases Ab:j<l.length
   ·have d1:=dtT j l.length;have h4:(b && Qf (l.take j))=false:=by rw[GA];exact λe=>hc ⟨Ab,e⟩
    rw[h4]at h2|-;simp only[go_sem,DV,d1,txV,Gt];refine Kl (X:=[]) Jck (.inl rfl) rfl rfl rfl rfl ?_;simp only[go_sem];have e:R.give i b l=R.fail i:=by unfold RS.give;rw[<-h2,if_neg vk]
    rw[e];exact .done (wk.refl _)
   ·have d1:=dfF j l.length;rw[h2]
    cases hb:(b && Qf l) with
    |false=>
     have e:R.give i b l=R.fail i:=by unfold RS.give;rw[hb,if_neg vk]
     rw[e];simp only[go_sem,DV,d1,txV,Gt];refine Kl (X:=[]) Jck (.inl rfl) rfl rfl rfl rfl ?_;simp only[go_sem];exact .done (wk.refl _)
    |true=>
     have e:R.give i b l = { R with got:=R.got.set i l }:=by unfold RS.give;rw[hb,if_pos rfl]
     rw[e];simp only[txV]at Ay;simp only[go_sem,DV,d1,txV,GQ,hpR,Qb,Ef,Qc (l:=R.got) (i:=i) om,List.drop_succ_cons,Gd,Gr,Gn,Ay,Gc,Gg]
     repeat refine And.intro (by first|omega|exact⟨om,om⟩|exact Jg) ?_
     exact .done (wk.refl _)
end
def allB (t:Tr)(got:List TL)(i:Nat)(s:Lv):Bool:=(Gz (nd t i).kids.length).all λj=>opT (Ku (Jt got (Ju t i j))) == s
theorem allB_of{got:List TL}{s:Lv}{j:Nat}(hj:j<(nd t i).kids.length)(h:(opT (Ku (Jt got (Ju t i j))) == s)=false):allB t got i s=false:=by
 unfold allB;rw[GA];intro e;rw[Gx]at e;rw[e j (Gu.2 hj)]at h
 cases h
section
variable(g:GoodT t o)(ht:t.Fit){of:Lu}
include g ht
theorem rmAll{s:Lv}(hi:i<t.nodes.length)(hl:R.got.length=t.nodes.length):RMe Gf 107 [.int .i64 (i:Int),S s] t of R R (.bool (allB t R.got i s)):=by
 have Ag:=g.many;have hg:=JZ hi;have Aq:(iz (nd t i).kids).length=(nd t i).kids.length:=Jf;have Bh:=(JbR ht hi).kidn;refine QG (vfS c107_ok λN=>?_);simp only[c107,go_sem,hpR,Qb,Ja,hg,Nd.cv]
 repeat refine And.intro (by first|omega|exact⟨om,om⟩|exact Jg) ?_
 refine Jr (I:=λj:Nat=>j<=(nd t i).kids.length/\∀j',j' < j->(opT (Ku (Jt R.got (Ju t i j'))) == s)=true) (inv:=λj=>mkT 32 [(0,.ptr 0 0 0),(2,S s),(7,.rslc 1 (iz (nd t i).kids) none),(8,.int .i64 (j:Int))]) (hp:=λ_=>hpR t of R []) (μ:=λj=>(nd t i).kids.length-j) 0 [0,1,2,3] ⟨om,λj h=>om⟩ rfl ?_ ?_ ?_
 ·simp only[JR,Ga,Gb,ren,Jk];refine Js ?_;simp[Kh,Ko]
 ·exact KN (X:=[]) rfl
 ·rintro j ⟨hj,hq⟩;by_cases Ab:j<(nd t i).kids.length
  ·have d1:=dtT j (nd t i).kids.length;have ME:(iz (nd t i).kids).getD j []=[.int .i64 ((Ju t i j:Nat):Int)]:=by rw[JF Ab,JE g hi Ab]
   have Pw:Ju t i j<t.nodes.length:=by have:=(Jz g hi Ab).2.1;omega
   have hO:=rmOne (of:=of) Pw hl;simp only[go_sem,Aq,d1,ME]
   repeat refine And.intro (by first|omega|exact⟨om,om⟩|exact Jg) ?_
   refine Kl (X:=[]) hO (.inl rfl) rfl rfl rfl rfl ?_
   cases hb:(opT (Ku (Jt R.got (Ju t i j))) == s) with
   |true=>
    simp only[go_sem,hb,GQ,Gt];refine⟨Jg,j+1,[0,1,2,3],⟨om,λj' h=>?_⟩,om,rfl,KN (X:=[]) rfl,?_⟩
    ·rcases GR j' j with h1|h1
     ·exact hq j' h1
     ·rw[show j'=j by omega];exact hb
    ·simp only[JR,Ga,Gb,ren,Jk];refine Js ?_;simp[Kh,Ko]
   |false=>rw[allB_of Ab hb];simp only[go_sem,hb,GQ,Gt];exact .done (wk.refl _)
  ·have d1:=dfF j (nd t i).kids.length;have e:allB t R.got i s=true:=by unfold allB;rw[Gx];exact λx hx=>hq x (by have:=Gu.1 hx;omega)
   rw[e];simp only[go_sem,Aq,d1];exact .done (wk.refl _)
end
section
variable{of:Lu}
theorem rmList {ks:Lu}(hl:R.got.length=t.nodes.length)(hk:∀k∈ks,0<=k/\k<t.nodes.length)(hn:ks.length<=1000)(Bd:∀j,(Jt R.got j).length<=30)(hf:∀j,Qf (Jt R.got j)=true):∃m:TL,(∀l,gvn R.got ks=some l->m=l)/\(m.length<=1000/\∀a∈m,(tyT a).length<=100000)/\RMe Gf 113 [.rslc 1 (iz ks) none] t of R R (.tup [txV m,.bool (gvn R.got ks).isSome]):=by
 have Af:(iz ks).length=ks.length:=Jf;have AL:(gz R.got).length=t.nodes.length:=by rw[QH,hl]
 have Ar:∀j,j<ks.length->∃i:Nat,ks.getD j 0=i/\i<t.nodes.length:=λj hj=>by have hm:=hk (ks.getD j 0) (by rw[Gv,Gy hj];exact GN hj);exact⟨(ks.getD j 0).toNat,om,om⟩
 by_cases h1:ks.length=1
 ·obtain⟨k,rfl⟩:=GY.1 h1;obtain⟨i,rfl⟩:∃i:Nat,k=i:=⟨k.toNat,by have:=(hk k sM).1;omega⟩;have hi:i<t.nodes.length:=by have:=(hk (i:Int) sM).2;omega
  have hg:=Qc (l:=R.got) (i:=i) om;refine⟨Jt R.got i,λl h=>by rw[gvn_one]at h;cases h;rfl,⟨by have:=Bd i;omega,λa ha=>by have:=Yt (hf i) ha;omega⟩,?_⟩;refine QG (vfS c113_ok λN=>?_);have d1:(((0+1:Nat):Int) == 1)=true:=rfl;simp only[c113,go_sem,hpR,Qb,Kt,Xm,Gr,Gn,d1];refine JP Jm vM ?_;simp only[go_sem,hg,AL,Gr,Gn]
  repeat refine anO ?_
  exact .done (wk.refl _)
 ·have hm:=gvn_many (got:=R.got) h1;have d1:((ks.length:Int) == 1)=false:=by simpa using (by omega:¬(ks.length:Int)=1)
  obtain⟨j0,cu,BH,Cz⟩:∃j0,j0<=ks.length/\(∀j,j<j0->(Jt R.got (ks.getD j 0).toNat).length=1)/\(j0<ks.length->(Jt R.got (ks.getD j0 0).toNat).length≠1):=by
   have:∀n,n<=ks.length->(∀j,j<n->(Jt R.got (ks.getD j 0).toNat).length=1)\/∃j0,j0<n/\(∀j,j<j0->(Jt R.got (ks.getD j 0).toNat).length=1)/\(Jt R.got (ks.getD j0 0).toNat).length≠1:=by
    intro n
    induction n with
    |zero=>exact λ_=>.inl λj h=>om
    |succ n ih=>
     intro h;rcases ih om with h2|⟨j0,h2,h3,h4⟩
     ·by_cases h5:(Jt R.got (ks.getD n 0).toNat).length=1
      ·refine .inl λj hj=>?_
       rcases GR j n with h6|h6
       ·exact h2 j h6
       ·rw[show j=n by omega];exact h5
      ·exact .inr ⟨n,om,h2,h5⟩
     ·exact .inr ⟨j0,om,h3,h4⟩
   rcases this ks.length (Nat.le_refl _) with h|⟨j0,h2,h3,h4⟩
   ·exact⟨ks.length,Nat.le_refl _,h,λh=>om⟩
   ·exact⟨j0,om,h3,λ_=>h4⟩
  have hb:(gvn R.got ks).isSome=decide (j0=ks.length)/\∀l,gvn R.got ks=some l->hdT R.got (ks.take j0)=l:=by
   rw[hm];by_cases e:j0=ks.length
   ·have Aj:ks.all (λk=>(Jt R.got k.toNat).length == 1)=true:=by rw[Gx];intro x hx;obtain⟨j,hj,rfl⟩:=List.getElem_of_mem hx;have:=BH j om;rw[Gv,Gy hj]at this;simpa using this
    rw[if_pos Aj,e,GI];exact⟨sM,λl h=>by cases h;rfl⟩
   ·have Aj:¬ks.all (λk=>(Jt R.got k.toNat).length == 1)=true:=λh=>by have h2:=Gx.1 h (ks.getD j0 0) (by rw[Gv,Gy (show j0<ks.length by omega)];exact GN _);exact Cz om (by simpa using h2)
    rw[if_neg Aj];exact⟨by simp[e],λl h=>by cases h⟩
  refine⟨hdT R.got (ks.take j0),hb.2,⟨by unfold hdT;rw[G5,GM];omega,λa ha=>?_⟩,?_⟩
  ·unfold hdT at ha;obtain⟨k,_,rfl⟩:=GV.1 ha
   cases hg:Jt R.got k.toNat with
   |nil=>decide
   |cons x l=>have:=Yt (hf k.toNat) (a:=x) (by rw[hg];exact List.mem_cons_self);simp only[G6];omega
  rw[hb.1];clear hb hm;refine QG (vfS c113_ok λN=>?_);simp only[c113,go_sem,hpR,Qb,Af,d1];have Be:∀j,j<=ks.length->(txz (hdT R.got (ks.take j))).length=j:=λj hj=>by rw[K8];simp[hdT];omega
  have Aw:=λ(ρ:Lx) (j:Nat)=>Jb (ρ:=ρ) (JH (hdT R.got (ks.take j)))
  refine Jr (I:=λj:Nat=>j<=j0) (inv:=λj=>mkT 56 [(0,.ptr 0 0 0),(1,.rslc 1 (iz ks) none),(6,.slc 4 0 j (Jd8 (txz (hdT R.got (ks.take j))))),(7,.int .i64 (j:Int))]) (hp:=λj=>hpR t of R [.arr 1 (txz (hdT R.got (ks.take j)))]) (μ:=λj=>j0-j) 0 [0,1,2,3,4] om rfl ?_ ?_ ?_
  ·simp only[JR,Ga,Gb,ren,Jk];refine Js ?_;simp[Kh,Ko,hdT,txz,Jd8]
  ·exact KN (X:=[.arr 1 []]) rfl
  ·intro j hj;have EU:=Be j om;have BV:(txz (hdT R.got (ks.take j))).take j=txz (hdT R.got (ks.take j)):=GH om;by_cases Ab:j<ks.length
   ·have d2:=dtT j ks.length;obtain⟨i,e1,e2⟩:=Ar j Ab;have Bq:=JF Ab;rw[e1]at Bq;have hg:=Qc (l:=R.got) (i:=i) om;have DV:(txz (Jt R.got i)).length=(Jt R.got i).length:=K8;by_cases gU:j<j0
    ·have Bi:=BH j gU;rw[e1,Gp]at Bi;obtain⟨a,ha⟩:=GY.1 Bi;have AC:=hdT_snoc (got:=R.got) Ab;rw[e1,Gp,ha]at AC;simp only[G6]at AC;have d3:(((0+1:Nat):Int) != 1)=false:=rfl;have DZ:=Be (j+1) om;rw[AC,Qd]at DZ;have z1:(txz [a]).length=1:=rfl;have z2:(txz [a]).getD 0 []=[S (tyT a)]:=rfl;have d4:(((1:Nat):Int) != 1)=false:=rfl;simp only[go_sem,Af,d2];refine JP Jm vM ?_;simp only[go_sem,hpR,Qb,Af,Bq,AL,hg,ha,txV,z1,d4]
     repeat refine anO ?_
     refine JJ [0,0,0,0,1,0,0,0,0,1,1,0,0,0,2,0] Jm vM ?_;simp only[go_sem,Af,Bq,AL,hg,ha,txV,z1,z2]
     repeat refine anO ?_
     refine YC [[S (tyT a)]] (.inl rfl) rfl rfl rfl rfl ?_;simp only[go_sem,JA,EU,Gr,Gn]
     repeat refine anO ?_
     refine⟨Jg,j+1,[0,1,2,3,5],om,om,rfl,?_,?_⟩
     ·rw[AC,Qd];exact KN (X:=[.arr 1 (txz (hdT R.got (ks.take j))),.arr 1 (txz (hdT R.got (ks.take j))++[[S (tyT a)]])]) (by have:(txz (hdT R.got (ks.take j))++[[S (tyT a)]]).map (JG [0,1,2,3,5])=_:=Jb (by rw[<-Qd];exact JH _);simp only[Ga,Gb,hpR,List.getD_cons_succ,Gq,Jo,this])
     ·rw[AC,Qd,Yv];simp only[JR,Ga,Gb,ren,Jk];refine Js ?_;simp[Kh,Ko]
    ·obtain rfl:j=j0:=om
     have Ai:=Cz Ab;rw[e1,Gp]at Ai;have d3:(((Jt R.got i).length:Int) != 1)=true:=by simp;omega
     have hb:decide (j=ks.length)=false:=decide_eq_false om;rw[hb];simp only[go_sem,Af,d2];refine JP Jm vM ?_;simp only[go_sem,hpR,Qb,Af,Bq,AL,hg,txV,DV,d3]
     repeat refine anO ?_
     refine .oneR 0 rfl (JH _) ?_ ?_
     ·simp[frz,JM,CV.closed,Jl,EU]
     ·simp[frz,JM,txV,EU,BV];exact wk.refl _
   ·have d2:=dfF j ks.length;obtain rfl:j=j0:=om
    have hb:decide (j=ks.length)=true:=decide_eq_true om;rw[hb];simp only[go_sem,Af,d2];refine .oneR 0 rfl (JH _) ?_ ?_
    ·simp[frz,JM,CV.closed,Jl,EU]
    ·simp[frz,JM,txV,EU,BV];exact wk.refl _
end
theorem getT {α:Type}{f:Nat->α}{n j:Nat}{d:α}(h:j<n):((Gz n).map f).getD j d=f j:=by rw[Gv,List.getElem?_map,List.getElem?_range h];rfl
section
variable(g:GoodT t o)(ht:t.Fit)
include g ht
theorem refSign4 {d:Nat}(hd:d<t.nodes.length)(hk:(nd t d).k=65):Fn Gf 24 [t.cv,.int .i64 (d:Int)] (.tup [txV (Yj t d),txV (XU t d)]):=by
 have Ag:=g.many;have hg:=JZ hd;have Bh:=(JbR ht hd).kidn;obtain⟨a,a1,a2,a3,a4,a5⟩:=JbD g hd hk;change (nd t d).n=a at a1;change a<(nd t d).kids.length at a2;have Aq:(iz (nd t d).kids).length=(nd t d).kids.length:=Jf;have dG:(Yj t d).length=a:=by unfold Yj;simp[a1]
 have Sy:(XU t d).length=(nd t d).kids.length-1-a:=by unfold XU;simp[a1]
 have aV:∀j,j<a->∃c:Nat,(nd t d).kids.getD j 0=c/\c<t.nodes.length/\∃e:Nat,(nd t c).kids=[(e:Int)]/\Fn Gf 47 [t.cv,.int .i64 (e:Int)] (S (tyT ((Yj t d).getD j .int))):=λj hj=>by
  have h1:=Jz g hd (i:=j) om;have Ea:(nd t (Ju t d j)).k=64:=by rw[h1.2.2];exact a3 j hj
  obtain⟨q1,q2,q3,q4⟩:=Ym g (i:=Ju t d j) om (.inr (.inl ⟨om,om⟩));have hl:=Xt g (i:=Ju t d j) om (.inr (.inr (.inr ⟨om,om⟩)));have hs:(Yj t d).getD j .int=tyN t (Ju t (Ju t d j) 0):=by unfold Yj;rw[a1,Gp,getT hj]
  have hc:=JE g hd (j:=j) om;exact⟨Ju t d j,hc,om,Ju t (Ju t d j) 0,Jdg g om hl,by rw[hs];exact YH g ht _ om q3 q4⟩
 have aU:∀j,j<(nd t d).kids.length-1-a->∃c:Nat,(nd t d).kids.getD (a+j) 0=c/\c<t.nodes.length/\Fn Gf 47 [t.cv,.int .i64 (c:Int)] (S (tyT ((XU t d).getD j .int))):=λj hj=>by
  have h1:=Jz g hd (i:=a+j) om;have h6:=a4 (a+j) om (by change a+j+1<(nd t d).kids.length;omega);have e:(nd t (Ju t d (a+j))).k=Jv t.nodes ((t.nodes.getD d default).kids.getD (a+j) 0):=h1.2.2;have hs:(XU t d).getD j .int=tyN t (Ju t d (a+j)):=by unfold XU;rw[a1,Gp,getT hj]
  have hc:=JE g hd (j:=a+j) om;exact⟨_,hc,om,by rw[hs];exact YH g ht _ om om om⟩
 have Pn:(((nd t d).kids.length:Int)-1)=(((nd t d).kids.length-1:Nat):Int):=om
 generalize Yj t d=sp at *;generalize XU t d=sr at *;refine fn_fnl (vfS c24_ok λN=>?_) rfl (by simp[CV.closed,Jl,txV]);simp only[c24,go_sem,Tr.cv,Tr.row,Ja,hg,Nd.cv]
 repeat refine And.intro (by first|omega|exact⟨om,om⟩|exact Jg) ?_
 refine Je (id:=0) (z:=2) (els:=[t.row]) rfl rfl ?_;simp only[go_sem,Tr.row,Jy,frz,JM,KA,Kn,Ga,Gb,Gq,Gd,Ha,if_true,if_false,Gc,Gg];refine Je (id:=3) (z:=5) (els:=[[.int .u8 ((nd t d).k:Int),S (nd t d).text,.int .i64 (nd t d).n,.rslc 1 (iz (nd t d).kids) none,.int .i64 (nd t d).pl]]) rfl rfl ?_;simp only[go_sem,Tr.row,Jy,frz,JM,KA,Kn,Ga,Gb,Gq,Gd,Ha,if_true,if_false,Gc,Gg];have jb:=λj=>JH (sp.take j)
 have iZ:=λj=>JH (sr.take j)
 refine Jr (I:=λj:Nat=>j<=(nd t d).kids.length-1) (inv:=λj=>mkT 58 [(2,.rptr t.row),(6,.rptr [.int .u8 ((nd t d).k:Int),S (nd t d).text,.int .i64 (nd t d).n,.rslc 1 (iz (nd t d).kids) none,.int .i64 (nd t d).pl]),(7,.slc 0 0 (txz (sp.take j)).length (Jd8 (txz (sp.take j)))),(8,.slc 1 0 (txz (sr.take (j-a))).length (Jd8 (txz (sr.take (j-a))))),(9,.int .i64 (j:Int))]) (hp:=λj=>[.arr 1 (txz (sp.take j)),.arr 1 (txz (sr.take (j-a)))]) (μ:=λj=>(nd t d).kids.length-1-j) 0 [1,2] om rfl ?_ ?_ ?_
 ·simp only[JR,Ga,Gb,ren,Jk];refine Js ?_;simp[Kh,Ko,Tr.row,txz,Jd8]
 ·simp[KD,Xk,txz]
 ·intro j hj;by_cases Ab:j<(nd t d).kids.length-1
  ·have d1:((j:Int)<(((nd t d).kids.length-1:Nat):Int))=True:=J5;by_cases gV:j<a
   ·have d2:=dtT j a;obtain⟨c,c1,c2,e,c3,c4⟩:=aV j gV;have ME:(iz (nd t d).kids).getD j []=[.int .i64 (c:Int)]:=by rw[JF om,c1]
    have D5:=JZ c2;have iC:iz (nd t c).kids=[[.int .i64 (e:Int)]]:=by rw[c3];rfl
    have AC:sp.take (j+1)=sp.take j++[sp.getD j .int]:=JgP om;have Cr:j+1-a=j-a:=om
    have A7:(txz (sp.take j)).length=j:=by rw[K8,GM];omega
    simp only[go_sem,Aq,Pn,d1,a1,d2]
    repeat refine And.intro (by first|omega|exact⟨om,om⟩|exact Jg) ?_
    refine JJ [0,0,0,0,0,0,0,0,0,0,0,0,0,0,0,0,2,0] Jm vM ?_;simp only[go_sem,Tr.row,Aq,ME,Ja,D5,Nd.cv,iC,Gr,Gn,Gq]
    repeat refine And.intro (by first|omega|exact⟨om,om⟩|exact Jg) ?_
    refine JdL (.inl rfl) c4 ?_;simp only[go_sem];refine YC [[S (tyT (sp.getD j .int))]] (.inl rfl) rfl rfl rfl rfl ?_;simp only[go_sem,JA,A7,Gr,Gn]
    repeat refine And.intro (by first|omega|exact⟨om,om⟩|exact Jg) ?_
    refine⟨j+1,[2,1],om,om,rfl,?_,?_⟩
    ·rw[AC,Qd,Cr];have e1:(txz (sp.take j)++[[S (tyT (sp.getD j .int))]]).map (JG [2,1])=_:=Jb (by rw[<-Qd];exact JH _);simp only[KD,Ga,Gb,go_sem,Jo,e1,Jb (iZ (j-a))]
    ·rw[AC,Qd,Cr,Yv];simp only[JR,Ga,Gb,ren,Jk];refine Js ?_;simp[Kh,Ko,Tr.row,A7]
   ·have d2:=dfF j a;obtain⟨c,c1,c2,c4⟩:=aU (j-a) om;rw[show a+(j-a)=j by omega]at c1;have ME:(iz (nd t d).kids).getD j []=[.int .i64 (c:Int)]:=by rw[JF om,c1]
    have AC:sr.take (j+1-a)=sr.take (j-a)++[sr.getD (j-a) .int]:=by rw[show j+1-a=(j-a)+1 by omega];exact JgP om
    have Dk:sp.take (j+1)=sp.take j:=by rw[GH om,GH om]
    have A7:(txz (sr.take (j-a))).length=j-a:=by rw[K8,GM];omega
    simp only[go_sem,Aq,Pn,d1,a1,d2]
    repeat refine And.intro (by first|omega|exact⟨om,om⟩|exact Jg) ?_
    refine JJ [0,0,0,0,0,0,0,0,0,2,0] Jm vM ?_;simp only[go_sem,Tr.row,Aq,ME]
    repeat refine And.intro (by first|omega|exact⟨om,om⟩|exact Jg) ?_
    refine JdL (.inl rfl) c4 ?_;simp only[go_sem];refine YC [[S (tyT (sr.getD (j-a) .int))]] (.inl rfl) rfl rfl rfl rfl ?_;simp only[go_sem,JA,A7,Gr,Gn]
    repeat refine And.intro (by first|omega|exact⟨om,om⟩|exact Jg) ?_
    refine⟨j+1,[0,2],om,om,rfl,?_,?_⟩
    ·rw[AC,Qd,Dk];have e1:(txz (sr.take (j-a))++[[S (tyT (sr.getD (j-a) .int))]]).map (JG [0,2])=_:=Jb (by rw[<-Qd];exact JH _);simp only[KD,Ga,Gb,go_sem,Jo,e1,Jb (jb j)]
    ·rw[AC,Qd,Dk,Yv];simp only[JR,Ga,Gb,ren,Jk];refine Js ?_;simp[Kh,Ko,Tr.row,A7]
  ·have d1:((j:Int)<(((nd t d).kids.length-1:Nat):Int))=False:=J7;have ep:sp.take j=sp:=GH om;have er:sr.take (j-a)=sr:=GH om;rw[ep,er];simp only[go_sem,Aq,Pn,d1]
   repeat refine And.intro (by first|omega|exact⟨om,om⟩|exact Jg) ?_
   have t1:∀l:TL,(txz l).take (txz l).length=txz l:=λl=>GI
   refine .frz 0 1 (txz sp) rfl (JH _) (.frz 1 1 (txz sr) ?_ (JH _) (.drop ?_ ?_))
   ·simp[KA,Kn,JI (JH _)]
   ·simp[frz,JM,CV.closed,Jl]
   ·simp[frz,JM,txV];exact wk.refl _
end
theorem Jax{a:TyX}:(opT (Ku l) == tyT a)=(l == [a]):=by
 rw[GX,beq_iff_eq,beq_iff_eq]
 constructor
 ·intro h;exact XH.1 (opT_inj (a:=Ku l) (b:=some a) h)
 ·intro h;rw[XH.2 h];rfl
def RS.ans (R:RS)(i:Nat):Option TL->RS
 |none=>R.fail i
 |some l=>R.give i true l
theorem Ye:R.ans i (if b=true then some l else none)=R.give i b l:=by
 cases b with
 |false=>rw[if_neg vk];unfold RS.ans RS.give;rw[GG,if_neg vk]
 |true=>rw[if_pos rfl];rfl
section
variable{of:Lu}
theorem rmGiveF(hc:Jq els=true)(hn:els.length<=1000):RMe Gf 105 [.int .i64 (i:Int),.bool false,.rslc 1 els none] t of R (R.fail i) (.tup []):=by
 refine QG (vfS c105_ok λN=>?_);simp only[c105,go_sem];refine Jr (I:=λ_:Nat=>True) (inv:=λ_=>mkT 36 [(0,.ptr 0 0 0),(1,.int .i64 (i:Int)),(2,.bool false),(3,.rslc 1 els none),(8,.int .i64 0)]) (hp:=λ_=>hpR t of R []) (μ:=λj=>j) 0 [0,1,2,3] trivial rfl ?_ ?_ ?_
 ·simp only[JR,Ga,Gb,ren,Jk,Jb hc];refine Js ?_;simp[Kh,Ko]
 ·exact KN (X:=[]) rfl
 ·intro j _;by_cases h0:(0:Int)<(els.length:Int)
  ·have d1:((0:Int)<(els.length:Int))=True:=eq_true h0;simp only[go_sem,d1,Gt];refine Kl (X:=[]) Jck (.inl rfl) rfl rfl rfl rfl ?_;simp only[go_sem];exact .done (wk.refl _)
  ·have d1:((0:Int)<(els.length:Int))=False:=eq_false h0;simp only[go_sem,d1,Gt];refine Kl (X:=[]) Jck (.inl rfl) rfl rfl rfl rfl ?_;simp only[go_sem];exact .done (wk.refl _)
theorem QJ(hi:i<t.nodes.length)(AL:R.got.length=t.nodes.length)(hn:els.length<=1000)(hc:Jq els=true)(he:b=true->els=txz l)(hl:∀a∈l,(tyT a).length<=100000):RMe Gf 105 [.int .i64 (i:Int),.bool b,.rslc 1 els none] t of R (R.give i b l) (.tup []):=by
 cases b with
 |true=>obtain rfl:=he rfl;exact YG hi AL (by rw[K8]at hn;exact hn) hl
 |false=>
  have e:R.give i false l=R.fail i:=by unfold RS.give;rw[GG,if_neg vk]
  rw[e];exact rmGiveF hc hn
end
section
variable(g:GoodT t o)(ht:t.Fit){of:Lu}
include g ht
theorem rmArray(hi:i<t.nodes.length)(hk:(nd t i).k=29)(hl:R.got.length=t.nodes.length)(hf:∀j,Qf (Jt R.got j)=true):RMe Gf 108 [.int .i64 (i:Int),.agg (nd t i).cv] t of R (R.ans i (Qh t m R.got i)) (.tup []):=by
 have Ag:=g.many;have Bh:=(JbR ht hi).kidn;have h2:=arr_two (K:=⟨t,[],[],[]⟩) g hi hk;change 2<=(nd t i).kids.length at h2;have Af:(iz (nd t i).kids).length=(nd t i).kids.length:=Jf;have El:∀j,1<=j->j<(nd t i).kids.length->∃c e:Nat,(iz (nd t i).kids).getD j []=[.int .i64 (c:Int)]/\c<t.nodes.length/\0<(nd t c).kids.length/\Ji t c=e/\e<t.nodes.length/\Jbc t R.got i j=Jt R.got e:=λj h1 hj=>by have hm:=Jz g hi (i:=j) hj;have hp:=JeJ g hi hk h1 hj;obtain⟨q1,q2,q3⟩:=JeI g (u:=Ju t i j) om hp;exact⟨_,_,by rw[JF hj,JE g hi hj],om,q1,rfl,om,by unfold Jbc;rw[if_pos hj]⟩
 have DY:KK t R.got i 0=Jt R.got (Ju t i 0):=by rw[XV g hi om (JE g hi om),Gp]
 have bJ:Ju t i 0<t.nodes.length:=by have:=Jz g hi (i:=0) om;omega
 have jK:(iz (nd t i).kids).getD 0 []=[.int .i64 ((Ju t i 0:Nat):Int)]:=by rw[JF om,JE g hi om]
 obtain⟨c1,e1,p1,p2,p3,p4,p5,p6⟩:=El 1 om om;have dO:=Ja7 (hf e1);generalize hs:Ku (Jt R.got e1)=s at *;have hr:Qh t m R.got i=if ((Jt R.got (Ju t i 0) == [.int]) && (s.isSome && JhP t R.got i (s.getD .int) ((nd t i).kids.length-1)))=true then some [.arr (s.getD .int)] else none:=by
  rw[JV,hk,JdT,p6,DY,hs];change (if s.isSome=true/\JhP t R.got i (s.getD .int) ((nd t i).kids.length-1)=true/\Jt R.got (Ju t i 0)=[.int] then _ else _)=_
  cases s.isSome <;> cases JhP t R.got i (s.getD .int) ((nd t i).kids.length-1) <;> by_cases h:Jt R.got (Ju t i 0)=[TyX.int] <;> simp[h]
 rw[hr,Ye];clear hr;generalize bQ:(λj=>(Jt R.got (Ju t i 0) == [TyX.int]) && (s.isSome && JhP t R.got i (s.getD .int) j))=rB;have FN:∀j,rB j=((Jt R.got (Ju t i 0) == [TyX.int]) && (s.isSome && JhP t R.got i (s.getD .int) j)):=λj=>by rw[<-bQ]
 rw[<-FN];clear bQ;have dD:JhP t R.got i (s.getD .int) 0=true:=rfl;have bC:rB 1=((Jt R.got (Ju t i 0) == [TyX.int]) && !(opT s == [])):=by
  rw[FN,JcO,dD,p6]
  cases s with
  |none=>rfl
  |some a=>
   have e1:(Jt R.got e1 == [a])=true:=by rw[beq_iff_eq];exact XH.1 hs
   have e2:(opT (some a) == [])=false:=beq_eq_false_iff_ne.2 Jeh;simp only[Option.isSome_some,GU,e1,e2,Gs,Gt]
 have jD:∀j e,rB j=true->Jbc t R.got i (j+1)=Jt R.got e->rB (j+1)=(opT (Ku (Jt R.got e)) == opT s):=λj e h1 h2=>by rw[FN]at h1|-;rw[JcO,h2];simp only[GD]at h1;obtain⟨q1,q2,q3⟩:=h1;rw[q1,q2,q3,Gs,Gs,Gs];obtain⟨a,rfl⟩:=Hd.1 q2;exact Jax.symm
 have jE:∀j,rB j=false->rB (j+1)=false:=λj h=>by
  rw[FN]at h|-;rw[JcO]
  revert h
  cases (Jt R.got (Ju t i 0) == [TyX.int]) <;> cases s.isSome <;> simp
  intro h;simp[h]
 have jC:∀j,rB j=true->∃a,s=some a:=λj h=>by rw[FN]at h;simp only[GD]at h;exact Hd.1 h.2.1
 clear FN dD;have Oj:(opT (Ku (Jt R.got (Ju t i 0))) == [105,110,116])=(Jt R.got (Ju t i 0) == [TyX.int]):=Jax (a:=.int);generalize hG:R.give i (rB ((nd t i).kids.length-1)) [TyX.arr (s.getD .int)]=RG;have Ib:=Yk g ht p2 p3;rw[p4]at Ib;have dH:=rmOne (of:=of) p5 hl;rw[hs]at dH;have jd:=rmOne (of:=of) bJ hl;refine QG (vfS c108_ok λN=>?_);simp only[c108,go_sem,hpR,Qb,Nd.cv];refine JW (t:=t) (of:=of) (R:=R) (X:=[.arr 5 [(nd t i).cv]]) 0 rfl rfl rfl ?_;simp only[go_sem,Jy,frz,JM,Kn,Ga,Gb,Gc,hpR,Qb,show ¬(0:Nat)=0+4 by decide,if_false,if_true,Nd.cv,Gq,Gd,Gh];refine JJ [0,0,0,0,4,0,0,0,0,0,4,0] Jm vM ?_;simp only[go_sem,Af,p1]
 repeat refine And.intro (by first|omega|exact⟨om,om⟩|exact Jg) ?_
 refine JdL (.inl rfl) Ib ?_;simp only[go_sem];refine vy_rm (R:=R) (X:=[.dead]) dH (.inl rfl) rfl rfl rfl rfl ?_;simp only[go_sem,Af,jK]
 repeat refine And.intro (by first|omega|exact⟨om,om⟩|exact Jg) ?_
 refine Kl (X:=[.dead]) jd (.inl rfl) rfl rfl rfl rfl ?_
 cases h0:(Jt R.got (Ju t i 0) == [TyX.int])
 all_goals
  rw[h0]at bC Oj;simp only[GG,Gs]at bC;simp only[go_sem,Oj];refine Jr (I:=λj:Nat=>1<=j/\j<=(nd t i).kids.length-1) (inv:=λj=>mkT 63 [(0,.ptr 0 0 0),(1,.int .i64 (i:Int)),(5,.rptr [.int .u8 ((nd t i).k:Int),S (nd t i).text,.int .i64 (nd t i).n,.rslc 1 (iz (nd t i).kids) none,.int .i64 (nd t i).pl]),(6,S (opT s)),(7,.bool (rB j)),(8,.int .i64 ((j+1:Nat):Int))]) (hp:=λ_=>hpR t of R []) (μ:=λj=>(nd t i).kids.length-1-j) 1 [0,1,2,3] ⟨om,om⟩ rfl ?_ ?_ ?_
  ·simp only[JR,Ga,Gb,ren,Jk,bC];refine Js ?_;simp[Kh,Ko]
  ·exact KN (X:=[.dead]) rfl
  ·rintro j ⟨EU,DZ⟩;by_cases Ab:j+1<(nd t i).kids.length
   ·have d1:(((j+1:Nat):Int)<((nd t i).kids.length:Int))=True:=J5;obtain⟨c,e,r1,r2,r3,r4,r5,r6⟩:=El (j+1) om Ab;have Ia:=Yk g ht r2 r3;rw[r4]at Ia;have jc:=rmOne (of:=of) r5 hl;simp only[go_sem,Af,d1];refine JJ [0,0,0,0,0,0,4,0,0,0,0,0,0,4,0,0,0,0] Jm vM ?_
    cases hb:rB j with
    |false=>simp only[go_sem];refine⟨Jg,j+1,[0,1,2,3],⟨om,om⟩,om,rfl,KN (X:=[]) rfl,?_⟩;rw[jE j hb];simp only[JR,Ga,Gb,ren,Jk];refine Js ?_;simp[Kh,Ko]
    |true=>
     simp only[go_sem,hpR,Qb,Af,r1]
     repeat refine And.intro (by first|omega|exact⟨om,om⟩|exact Jg) ?_
     refine JdL (gok rfl) Ia ?_;simp only[go_sem];refine vy_rm (R:=R) (X:=[]) jc (gok rfl) rfl rfl rfl rfl ?_;simp only[go_sem];refine⟨Jg,j+1,[0,1,2,3],⟨om,om⟩,om,rfl,KN (X:=[]) rfl,?_⟩;rw[jD j e hb r6];simp only[JR,Ga,Gb,ren,Jk];refine Js ?_;simp[Kh,Ko]
   ·have d1:(((j+1:Nat):Int)<((nd t i).kids.length:Int))=False:=J7;obtain rfl:j=(nd t i).kids.length-1:=om
    simp only[go_sem,Af,d1]
    repeat refine And.intro (by first|omega|exact⟨om,om⟩|exact Jg) ?_
    refine JW (t:=t) (of:=of) (R:=R) (X:=[.arr 1 [[S ([91]++opT s++[93])]]]) 0 rfl rfl rfl ?_;simp only[go_sem,Jy,frz,JM,Ga,Gb,Gc,Gl,Gm,Gd,Gh,if_true];refine Kl (X:=[.dead]) (QJ (l:=[TyX.arr (s.getD .int)]) hi hl sM rfl (λhb=>?_) (λa ha=>?_)) (.inl rfl) rfl rfl rfl rfl ?_
    ·obtain⟨a,rfl⟩:=jC _ hb;rfl
    ·rw[Gj.1 ha]
     cases s with
     |none=>decide
     |some a=>simp only[tyT,GU,opT,Gr,Gw,Gn]at dO|-;omega
    ·rw[hG];simp only[go_sem];exact .outR (wk.refl _) rfl
theorem rmCall(hi:i<t.nodes.length)(hk:(nd t i).k=26)(Ba:of.length=t.nodes.length)(CK:of.getD i 0=(m:Int))(hm:m<t.nodes.length)(Dr:(nd t m).k=65)(hl:R.got.length=t.nodes.length):RMe Gf 109 [.int .i64 (i:Int),.agg (nd t i).cv] t of R (R.ans i (Qh t m R.got i)) (.tup []):=by
 have Ag:=g.many;have Bh:=(JbR ht hi).kidn;have gQ:=(JbR ht hm).kidn;have Af:(iz (nd t i).kids).length=(nd t i).kids.length:=Jf;have OA:(iz of).length=t.nodes.length:=by rw[Jf,Ba]
 have U4:(iz of).getD i []=[.int .i64 (m:Int)]:=by rw[JF om,CK]
 have aS:=refSign4 g ht hm Dr;have Mi:(Yj t m).length<=30:=by obtain⟨a,a1,a2,_⟩:=JbD g hm Dr;change (nd t m).n=a at a1;change a<(nd t m).kids.length at a2;unfold Yj;simp[a1];omega
 have Pi:(XU t m).length<=30:=by unfold XU;simp;omega
 have fM:∀a∈XU t m,(tyT a).length<=100000:=λa ha=>by unfold XU at ha;obtain⟨q,hq,rfl⟩:=GV.1 ha;have h1:=Jz g hm (i:=(nd t m).n.toNat+q) (by have:=Gu.1 hq;omega);have:=XW (t:=t) (i:=Ju t m ((nd t m).n.toNat+q)) om;omega
 have jS:∀a∈Yj t m,(tyT a).length<=100000:=λa ha=>by
  obtain⟨a0,a1,a2,a3,_⟩:=JbD g hm Dr;change (nd t m).n=a0 at a1;change a0<(nd t m).kids.length at a2;unfold Yj at ha;obtain⟨q,hq,rfl⟩:=GV.1 ha;have hq:=Gu.1 hq;rw[a1,Gp]at hq;have h1:=Jz g hm (i:=q) om;have Ea:(nd t (Ju t m q)).k=64:=by rw[h1.2.2];exact a3 q hq
  obtain⟨q1,q2,q3,q4⟩:=Ym g (i:=Ju t m q) om (.inr (.inl ⟨om,om⟩));have:=XW (t:=t) (i:=Ju t (Ju t m q) 0) om;omega
 have MR:Qh t m R.got i=if (nd t i).kids.length=(Yj t m).length/\∀j,j<(nd t i).kids.length->KK t R.got i j=[(Yj t m).getD j .int] then some (XU t m) else none:=by rw[JV,hk,Jg5]
 rw[MR];clear MR;generalize Yj t m=sp at *;generalize XU t m=sr at *;have CG:(txz sp).length=sp.length:=K8;have Bz:∀j,j<(nd t i).kids.length->(iz (nd t i).kids).getD j []=[.int .i64 ((Ju t i j:Nat):Int)]/\Ju t i j<t.nodes.length/\KK t R.got i j=Jt R.got (Ju t i j):=λj hj=>by have h1:=(Jz g hi hj).2.1;exact⟨by rw[JF hj,JE g hi hj],om,by rw[XV g hi hj (JE g hi hj),Gp]⟩
 generalize bP:(λj=>decide (sp.length=(nd t i).kids.length) && (Gz j).all λq=>KK t R.got i q == [sp.getD q .int])=rC;have O8:∀j,rC j=(decide (sp.length=(nd t i).kids.length) && (Gz j).all λq=>KK t R.got i q == [sp.getD q .int]):=λj=>by rw[<-bP]
 have hr:(if (nd t i).kids.length=sp.length/\∀j,j<(nd t i).kids.length->KK t R.got i j=[sp.getD j .int] then some sr else none)=if rC sp.length=true then some sr else none:=by
  have e:((nd t i).kids.length=sp.length/\∀j,j<(nd t i).kids.length->KK t R.got i j=[sp.getD j .int])↔rC sp.length=true:=by
   rw[O8,GD,decide_eq_true_iff,Gx]
   constructor
   ·rintro⟨q1,q2⟩;exact⟨q1.symm,λx hx=>by rw[beq_iff_eq];exact q2 x (by have:=Gu.1 hx;omega)⟩
   ·rintro⟨q1,q2⟩;exact⟨q1.symm,λj hj=>by have:=q2 j (Gu.2 om);rwa [beq_iff_eq]at this⟩
  by_cases h:rC sp.length=true
  ·rw[if_pos h,if_pos (e.2 h)]
  ·rw[if_neg h,if_neg (λh2=>h (e.1 h2))]
 rw[hr,Ye];clear hr bP;have jB:rC 0=((sp.length:Int) == ((nd t i).kids.length:Int)):=by rw[O8,List.range_zero,GK,GL,GX,decide_eq_true_iff,beq_iff_eq];omega
 have jy:∀j,rC j=true->j<sp.length->j<(nd t i).kids.length/\rC (j+1)=(KK t R.got i j == [sp.getD j .int]):=λj h1 h2=>by have h3:=O8 (j+1);rw[List.range_succ,G7,GJ,GK,GL,<-G8,<-O8,h1,Gs]at h3;rw[O8,GD,decide_eq_true_iff]at h1;exact⟨om,h3⟩
 have jA:∀j,rC j=false->j<=sp.length->rC sp.length=false:=λj h1 h2=>by
  rw[O8]at h1|-;rw[Bool.and_eq_false_iff]at h1|-;rcases h1 with h1|h1
  ·exact .inl h1
  ·refine .inr ?_;rw[GA]at h1|-;intro h;apply h1;rw[Gx]at h|-;exact λx hx=>h x (Gu.2 (by have:=Gu.1 hx;omega))
 clear O8;have Az:RMe Gf 105 [.int .i64 (i:Int),.bool (rC sp.length),txV sr] t of R (R.give i (rC sp.length) sr) (.tup []):=YG hi hl om fM;generalize R.give i (rC sp.length) sr=RG at *;refine QG (vfS c109_ok λN=>?_);simp only[c109,go_sem,hpR,Qb,Nd.cv];refine JW (t:=t) (of:=of) (R:=R) (X:=[.arr 5 [(nd t i).cv]]) 0 rfl rfl rfl ?_;simp only[go_sem,Jy,frz,JM,Kn,Ga,Gb,Gc,hpR,Qb,show ¬(0:Nat)=0+4 by decide,if_false,if_true,Nd.cv,Gq,Gd,Gh];refine JJ [0,0,0,4,0,0,0,4,0,0,0,0,0,0,0,0,0] Jm vM ?_;simp only[go_sem,OA,U4]
 repeat refine And.intro (by first|omega|exact⟨om,om⟩|exact Jg) ?_
 refine JdL (.inl rfl) aS ?_;simp only[go_sem,txV,CG,Af,<-jB];refine Jr (I:=λj:Nat=>j<=sp.length) (inv:=λj=>mkT 57 [(0,.ptr 0 0 0),(1,.int .i64 (i:Int)),(5,.rptr [.int .u8 ((nd t i).k:Int),S (nd t i).text,.int .i64 (nd t i).n,.rslc 1 (iz (nd t i).kids) none,.int .i64 (nd t i).pl]),(6,.rslc 1 (txz sp) none),(7,.rslc 1 (txz sr) none),(8,.bool (rC j)),(9,.int .i64 (j:Int))]) (hp:=λ_=>hpR t of R []) (μ:=λj=>sp.length-j) 0 [0,1,2,3] om rfl ?_ ?_ ?_
 ·simp only[JR,Ga,Gb,ren,Jk,Jb (JH _)];refine Js ?_;simp[Kh,Ko]
 ·exact KN (X:=[.dead]) rfl
 ·intro j hj;by_cases hc:j<sp.length/\rC j=true
  ·obtain⟨Ab,hb⟩:=hc;obtain⟨gT,Al⟩:=jy j hb Ab;obtain⟨r1,r2,r3⟩:=Bz j gT;rw[r3,<-Jax]at Al;have d1:=dtT j sp.length;have hO:=rmOne (of:=of) r2 hl;have hx:=Yi Ab;simp only[go_sem,CG,d1,hb];refine JJ [0,0,0,0,0,0,4,0,0,0,0,0,0] Jm vM ?_;simp only[go_sem,Af,r1]
   repeat refine And.intro (by first|omega|exact⟨om,om⟩|exact Jg) ?_
   refine vy_rm (R:=R) (X:=[]) hO (.inl rfl) rfl rfl rfl rfl ?_;simp only[go_sem,CG,hx]
   repeat refine And.intro (by first|omega|exact⟨om,om⟩|exact Jg) ?_
   refine⟨j+1,[0,1,2,3],om,om,rfl,KN (X:=[]) rfl,?_⟩;rw[Al];simp only[JR,Ga,Gb,ren,Jk,Jb (JH _)];refine Js ?_;simp[Kh,Ko]
  ·have Bl:rC j=rC sp.length:=by
    rcases GR j sp.length with h|h
    ·have h2:rC j=false:=by rw[GA];exact λe=>hc ⟨h,e⟩
     rw[h2,jA j h2 hj]
    ·rw[show j=sp.length by omega]
   by_cases Ab:j<sp.length
   ·have d1:=dtT j sp.length;have h2:rC j=false:=by rw[GA];exact λe=>hc ⟨Ab,e⟩
    rw[<-Bl,h2]at Az;simp only[go_sem,CG,d1,h2];refine Kl (X:=[]) Az (.inl rfl) rfl rfl rfl rfl ?_;simp only[go_sem];exact .done (wk.refl _)
   ·have d1:=dfF j sp.length;rw[<-Bl]at Az;simp only[go_sem,CG,d1];refine Kl (X:=[]) Az (.inl rfl) rfl rfl rfl rfl ?_;simp only[go_sem];exact .done (wk.refl _)
end
theorem KK_ge{got:List TL}{j:Nat}(h:(nd t i).kids.length<=j):KK t got i j=[]:=by unfold KK;rw[iN7]
theorem Jen:((spW a).1 == [115,116,114,101,97,109])=isStr a:=by rcases a with _|a|a|b|b <;> rfl
theorem spW_arr:((spW a).1 == [91,93])=Jb2 a:=by rcases a with _|a|a|b|b <;> rfl
theorem str_part(h:isStr a=true):[[S (spW a).2]]=txz [(prt a).getD .int]:=by rcases a with _|a|a|b|b <;> first|rfl|cases h
theorem arr_part(h:Jb2 a=true):[[S (spW a).2]]=txz [(prt a).getD .int]:=by rcases a with _|a|a|b|b <;> first|rfl|cases h
theorem str_whole(h:isStr a=true):[[S (opT a)]]=txz [.str ((prt a).getD .int)]:=by rcases a with _|a|a|b|b <;> first|rfl|cases h
theorem Jai(h:(opT a).length<=140):(tyT ((prt a).getD .int)).length<=140:=by
 have:=prt_len (a:=a)
 cases hp:prt a with
 |none=>simp[tyT]
 |some y=>rw[hp]at this;change (tyT y).length<=(opT a).length at this;simp only[GU];omega
theorem tail_eq {k:TL}:(if isStr (Ku k)=true then some k else none)=if isStr (Ku k)=true then some [TyX.str ((prt (Ku k)).getD .int)] else none:=by
 split
 ·rename_i h
  cases hk:Ku k with
  |none=>rw[hk]at h;cases h
  |some x=>
   rw[hk]at h
   cases x with
   |str b=>rw[XH.1 hk];rfl
   |_=>cases h
 ·rfl
theorem cons_eq {k0 k1:TL}:(!(opT (Ku k0) == []) && (opT (Ku k1) == [115,116,114,101,97,109,32]++opT (Ku k0)))=(isStr (Ku k1) && k0 == [(prt (Ku k1)).getD .int]):=by
 cases h0:Ku k0 with
 |none=>
  have:∀y,(k0 == [y])=false:=λy=>by rw[beq_eq_false_iff_ne];intro e;rw[XH.2 e]at h0;cases h0
  rw[this,Bool.and_false];rfl
 |some x=>
  obtain rfl:=XH.1 h0;have e1:(opT (some x) == [])=false:=beq_eq_false_iff_ne.2 Jeh;rw[e1,Gt,Gs]
  cases h1:Ku k1 with
  |none=>rfl
  |some y=>
   rw[show (opT (some y) == [115,116,114,101,97,109,32]++opT (some x))=(tyT y == tyT (.str x)) from rfl,JfF]
   cases y with
   |str b=>
    simp only[isStr,prt,GU,Gs];rw[GX,beq_iff_eq,beq_iff_eq];exact⟨λh=>by cases h;rfl,λh=>by cases h;rfl⟩
   |_=>rfl
section
variable(g:GoodT t o)(ht:t.Fit){of:Lu}
include g ht
omit ht in
theorem kids_none(hi:i<t.nodes.length)(hk:(nd t i).k=1\/(nd t i).k=2\/(nd t i).k=3):(nd t i).kids.length=0:=by
 have hn:=g.nds (nd t i) (by unfold nd;rw[Gv,Gy hi];exact GN hi);rw[ndI_R]at hn;simp only[GD]at hn;have h:=hn.1.1;unfold Qk at h;rw[iP7]at h;have h2:((lets t.nodes (nd t i)).length:Int)=0:=by simpa using h
 rw[KG]at h2;omega
omit ht in
theorem JcP{a:TyX}(hi:i<t.nodes.length)(h:(nd t i).kids.length=2):allB t R.got i (tyT a)=(KK t R.got i 0 == [a] && KK t R.got i 1 == [a]):=by unfold allB;rw[h,show Gz 2=[0,1] from rfl,GJ,GJ,GK,GL,Jax,Jax,XV g hi om (JE g hi om),XV g hi om (JE g hi om),Gp,Gp]
omit ht in
theorem allB_one{a:TyX}(hi:i<t.nodes.length)(h:(nd t i).kids.length=1):allB t R.got i (tyT a)=(KK t R.got i 0 == [a]):=by unfold allB;rw[h,show Gz 1=[0] from rfl,GJ,GK,GL,Jax,XV g hi om (JE g hi om),Gp]
theorem rmExpr1(hi:i<t.nodes.length)(hk:1<=(nd t i).k/\(nd t i).k<=24)(h3:(nd t i).k≠3)(hl:R.got.length=t.nodes.length)(hf:∀j,Qf (Jt R.got j)=true):RMe Gf 63 [.int .i64 (i:Int),.agg (nd t i).cv] t of R (R.ans i (Qh t m R.got i)) (.tup []):=by
 have Ag:=g.many;have Bh:=(JbR ht hi).kidn;have Af:(iz (nd t i).kids).length=(nd t i).kids.length:=Jf;have hK:∀j,j<(nd t i).kids.length->(iz (nd t i).kids).getD j []=[.int .i64 ((Ju t i j:Nat):Int)]/\RMe Gf 103 [.int .i64 ((Ju t i j:Nat):Int)] t of R R (S (opT (Ku (KK t R.got i j))))/\Ju t i j<t.nodes.length:=λj hj=>by have h1:=(Jz g hi hj).2.1;refine⟨by rw[JF hj,JE g hi hj],?_,om⟩;rw[XV g hi hj (JE g hi hj),Gp];exact rmKid om hl
 have Ma:∀j,(opT (Ku (KK t R.got i j))).length<=140:=λj=>by
  unfold KK
  split
  ·exact Ja7 (hf _)
  ·simp[Ku,opT]
 obtain⟨c,Fb⟩:=JeD (Ku (KK t R.got i 0)) (by have:=Ma 0;omega);have d00:((0:Int)<((0:Nat):Int))=False:=eq_false vk;have d10:((1:Int)<((0:Nat):Int))=False:=eq_false vk;have d01:((0:Int)<((1:Nat):Int))=True:=eq_true vk;have d11:((1:Int)<((1:Nat):Int))=False:=eq_false vk;have d02:((0:Int)<((2:Nat):Int))=True:=eq_true vk;have d12:((1:Int)<((2:Nat):Int))=True:=eq_true vk;have rE:=JV (t:=t) (m:=m) (got:=R.got) (i:=i);refine QG (vfS c63_ok λN=>?_);by_cases kc:(nd t i).k=1\/(nd t i).k=2
 ·have A8:(nd t i).kids.length=0:=kids_none g hi om;rw[KK_ge om]at Fb;simp -implicitDefEqProofs only[go_sem,Af,A8,d00,d10,c63,hpR,Qb,Nd.cv];refine JW (t:=t) (of:=of) (R:=R) (X:=[.arr 5 [(nd t i).cv]]) 0 rfl rfl rfl ?_;simp -implicitDefEqProofs only[go_sem,Jy,frz,JM,Kn,Ga,Gb,Gc,Gg,hpR,Qb,show ¬(0:Nat)=0+4 by decide,if_false,if_true,Nd.cv,Gq,Gd,Gh];refine J3 Fb ?_;by_cases kk:(nd t i).k=1
  ·simp -implicitDefEqProofs only[go_sem,kk,Gi];rw[rE,kk,rk_num];have eG:R.ans i (some [TyX.int])=R.give i true [.int]:=rfl;rw[eG];refine JW (t:=t) (of:=of) (R:=R) (X:=[.dead,.arr 1 [[S [105,110,116]]]]) 1 rfl rfl rfl ?_;simp -implicitDefEqProofs only[go_sem,Jy,frz,JM,Kn,Ga,Gb,Gc,Gg,Gl,Gm,Gd,Gh,if_true,show ¬(4:Nat)=1+4 by decide,if_false];refine Kl (X:=[.dead,.dead]) (QJ (l:=[TyX.int]) (els:=[[S [105,110,116]]]) hi hl sM rfl (λ_=>rfl) (λa ha=>by rw[Gj.1 ha];decide)) (.inl rfl) rfl rfl rfl rfl ?_;simp -implicitDefEqProofs only[go_sem];exact .outR (wk.refl _) rfl
  by_cases kk:(nd t i).k=2
  ·simp -implicitDefEqProofs only[go_sem,kk,Gi];rw[rE,kk,rk_bool];have eG:R.ans i (some [TyX.bool])=R.give i true [.bool]:=rfl;rw[eG];refine JW (t:=t) (of:=of) (R:=R) (X:=[.dead,.arr 1 [[S [98,111,111,108]]]]) 1 rfl rfl rfl ?_;simp -implicitDefEqProofs only[go_sem,Jy,frz,JM,Kn,Ga,Gb,Gc,Gg,Gl,Gm,Gd,Gh,if_true,show ¬(4:Nat)=1+4 by decide,if_false];refine Kl (X:=[.dead,.dead]) (QJ (l:=[TyX.bool]) (els:=[[S [98,111,111,108]]]) hi hl sM rfl (λ_=>rfl) (λa ha=>by rw[Gj.1 ha];decide)) (.inl rfl) rfl rfl rfl rfl ?_;simp -implicitDefEqProofs only[go_sem];exact .outR (wk.refl _) rfl
  exfalso;omega
 by_cases kc:19<=(nd t i).k
 ·have A8:(nd t i).kids.length=1:=Xt g hi (.inl ⟨om,om⟩);obtain⟨q1,q2,q3⟩:=hK 0 om;simp -implicitDefEqProofs only[go_sem,Af,A8,d01,d11,c63,hpR,Qb,Nd.cv,q1]
  repeat refine And.intro (by first|omega|exact⟨om,om⟩|exact Jg) ?_
  refine JW (t:=t) (of:=of) (R:=R) (X:=[.arr 5 [(nd t i).cv]]) 0 rfl rfl rfl ?_;simp -implicitDefEqProofs only[go_sem,Jy,frz,JM,Kn,Ga,Gb,Gc,Gg,hpR,Qb,show ¬(0:Nat)=0+4 by decide,if_false,if_true,Nd.cv,Gq,Gd,Gh];refine Kl (X:=[.dead]) q2 (.inl rfl) rfl rfl rfl rfl ?_;simp -implicitDefEqProofs only[go_sem,Af,A8,d01,d11];refine J3 Fb ?_;by_cases kk:(nd t i).k=20
  ·simp -implicitDefEqProofs only[go_sem,kk,Gi];rw[rE,kk,rk_neg,Ye,<-allB_one g (a:=.int) hi A8];refine Kl (X:=[.dead]) (rmAll g ht (s:=[105,110,116]) hi hl) (.inl rfl) rfl rfl rfl rfl ?_;simp -implicitDefEqProofs only[go_sem];refine JW (t:=t) (of:=of) (R:=R) (X:=[.dead,.arr 1 [[S [105,110,116]]]]) 1 rfl rfl rfl ?_;simp -implicitDefEqProofs only[go_sem,Jy,frz,JM,Kn,Ga,Gb,Gc,Gg,Gl,Gm,Gd,Gh,if_true,show ¬(4:Nat)=1+4 by decide,if_false];refine Kl (X:=[.dead,.dead]) (QJ (l:=[TyX.int]) (els:=[[S [105,110,116]]]) hi hl sM rfl (λ_=>rfl) (λa ha=>by rw[Gj.1 ha];decide)) (.inl rfl) rfl rfl rfl rfl ?_;simp -implicitDefEqProofs only[go_sem];exact .outR (wk.refl _) rfl
  by_cases kk:(nd t i).k=19
  ·simp -implicitDefEqProofs only[go_sem,kk,Gi];rw[rE,kk,rk_not,Ye,<-allB_one g (a:=.bool) hi A8];refine Kl (X:=[.dead]) (rmAll g ht (s:=[98,111,111,108]) hi hl) (.inl rfl) rfl rfl rfl rfl ?_;simp -implicitDefEqProofs only[go_sem];refine JW (t:=t) (of:=of) (R:=R) (X:=[.dead,.arr 1 [[S [98,111,111,108]]]]) 1 rfl rfl rfl ?_;simp -implicitDefEqProofs only[go_sem,Jy,frz,JM,Kn,Ga,Gb,Gc,Gg,Gl,Gm,Gd,Gh,if_true,show ¬(4:Nat)=1+4 by decide,if_false];refine Kl (X:=[.dead,.dead]) (QJ (l:=[TyX.bool]) (els:=[[S [98,111,111,108]]]) hi hl sM rfl (λ_=>rfl) (λa ha=>by rw[Gj.1 ha];decide)) (.inl rfl) rfl rfl rfl rfl ?_;simp -implicitDefEqProofs only[go_sem];exact .outR (wk.refl _) rfl
  by_cases kk:(nd t i).k=21
  ·simp -implicitDefEqProofs only[go_sem,kk,Gi];rw[rE,kk,Jg3,Ye,<-Jen];refine JW (t:=t) (of:=of) (R:=R) (X:=[.dead,.arr 1 [[S (spW (Ku (KK t R.got i 0))).2]]]) 1 rfl rfl rfl ?_;simp -implicitDefEqProofs only[go_sem,Jy,frz,JM,Kn,Ga,Gb,Gc,Gg,Gl,Gm,Gd,Gh,if_true,show ¬(4:Nat)=1+4 by decide,if_false];refine Kl (X:=[.dead,.dead]) (QJ (l:=[(prt (Ku (KK t R.got i 0))).getD .int]) (els:=[[S (spW (Ku (KK t R.got i 0))).2]]) hi hl sM rfl (λh=>str_part (by rw[<-Jen];exact h)) (λa ha=>by rw[Gj.1 ha];have:=Jai (Ma 0);omega)) (.inl rfl) rfl rfl rfl rfl ?_;simp -implicitDefEqProofs only[go_sem];exact .outR (wk.refl _) rfl
  by_cases kk:(nd t i).k=22
  ·simp -implicitDefEqProofs only[go_sem,kk,Gi];rw[rE,kk,JgZ,tail_eq,Ye,<-Jen];refine JW (t:=t) (of:=of) (R:=R) (X:=[.dead,.arr 1 [[S (opT (Ku (KK t R.got i 0)))]]]) 1 rfl rfl rfl ?_;simp -implicitDefEqProofs only[go_sem,Jy,frz,JM,Kn,Ga,Gb,Gc,Gg,Gl,Gm,Gd,Gh,if_true,show ¬(4:Nat)=1+4 by decide,if_false];refine Kl (X:=[.dead,.dead]) (QJ (l:=[TyX.str ((prt (Ku (KK t R.got i 0))).getD .int)]) (els:=[[S (opT (Ku (KK t R.got i 0)))]]) hi hl sM rfl (λh=>str_whole (by rw[<-Jen];exact h)) (λa ha=>by rw[Gj.1 ha];have:=Jai (Ma 0);simp only[tyT,Xh,Gw,Gr,Gn];omega)) (.inl rfl) rfl rfl rfl rfl ?_;simp -implicitDefEqProofs only[go_sem];exact .outR (wk.refl _) rfl
  by_cases kk:(nd t i).k=23
  ·simp -implicitDefEqProofs only[go_sem,kk,Gi];rw[rE,kk,JdS,Ye,<-Jen];refine JW (t:=t) (of:=of) (R:=R) (X:=[.dead,.arr 1 [[S [98,111,111,108]]]]) 1 rfl rfl rfl ?_;simp -implicitDefEqProofs only[go_sem,Jy,frz,JM,Kn,Ga,Gb,Gc,Gg,Gl,Gm,Gd,Gh,if_true,show ¬(4:Nat)=1+4 by decide,if_false];refine Kl (X:=[.dead,.dead]) (QJ (l:=[TyX.bool]) (els:=[[S [98,111,111,108]]]) hi hl sM rfl (λ_=>rfl) (λa ha=>by rw[Gj.1 ha];decide)) (.inl rfl) rfl rfl rfl rfl ?_;simp -implicitDefEqProofs only[go_sem];exact .outR (wk.refl _) rfl
  by_cases kk:(nd t i).k=24
  ·simp -implicitDefEqProofs only[go_sem,kk,Gi];rw[rE,kk,Jg0,Ye,<-spW_arr];refine JW (t:=t) (of:=of) (R:=R) (X:=[.dead,.arr 1 [[S [105,110,116]]]]) 1 rfl rfl rfl ?_;simp -implicitDefEqProofs only[go_sem,Jy,frz,JM,Kn,Ga,Gb,Gc,Gg,Gl,Gm,Gd,Gh,if_true,show ¬(4:Nat)=1+4 by decide,if_false];refine Kl (X:=[.dead,.dead]) (QJ (l:=[TyX.int]) (els:=[[S [105,110,116]]]) hi hl sM rfl (λ_=>rfl) (λa ha=>by rw[Gj.1 ha];decide)) (.inl rfl) rfl rfl rfl rfl ?_;simp -implicitDefEqProofs only[go_sem];exact .outR (wk.refl _) rfl
  exfalso;omega
 ·have A8:(nd t i).kids.length=2:=kids_two g hi om;obtain⟨q1,q2,q3⟩:=hK 0 om;obtain⟨r1,r2,r3⟩:=hK 1 om;simp -implicitDefEqProofs only[go_sem,Af,A8,d02,d12,c63,hpR,Qb,Nd.cv,q1]
  repeat refine And.intro (by first|omega|exact⟨om,om⟩|exact Jg) ?_
  refine JW (t:=t) (of:=of) (R:=R) (X:=[.arr 5 [(nd t i).cv]]) 0 rfl rfl rfl ?_;simp -implicitDefEqProofs only[go_sem,Jy,frz,JM,Kn,Ga,Gb,Gc,Gg,hpR,Qb,show ¬(0:Nat)=0+4 by decide,if_false,if_true,Nd.cv,Gq,Gd,Gh];refine Kl (X:=[.dead]) q2 (.inl rfl) rfl rfl rfl rfl ?_;simp -implicitDefEqProofs only[go_sem,Af,A8,d02,d12,r1]
  repeat refine And.intro (by first|omega|exact⟨om,om⟩|exact Jg) ?_
  refine Kl (X:=[.dead]) r2 (.inl rfl) rfl rfl rfl rfl ?_;simp -implicitDefEqProofs only[go_sem,Af,A8,d02,d12];refine J3 Fb ?_;by_cases kk:(nd t i).k=13\/(nd t i).k=14\/(nd t i).k=15\/(nd t i).k=16\/(nd t i).k=17
  ·rcases kk with kk|kk|kk|kk|kk
   all_goals
    simp -implicitDefEqProofs only[go_sem,kk,Gi];rw[rE,kk,rk_add om,Ye,<-JcP g (a:=.int) hi A8];refine Kl (X:=[.dead]) (rmAll g ht (s:=[105,110,116]) hi hl) (.inl rfl) rfl rfl rfl rfl ?_;simp -implicitDefEqProofs only[go_sem];refine JW (t:=t) (of:=of) (R:=R) (X:=[.dead,.arr 1 [[S [105,110,116]]]]) 1 rfl rfl rfl ?_;simp -implicitDefEqProofs only[go_sem,Jy,frz,JM,Kn,Ga,Gb,Gc,Gg,Gl,Gm,Gd,Gh,if_true,show ¬(4:Nat)=1+4 by decide,if_false];refine Kl (X:=[.dead,.dead]) (QJ (l:=[TyX.int]) (els:=[[S [105,110,116]]]) hi hl sM rfl (λ_=>rfl) (λa ha=>by rw[Gj.1 ha];decide)) (.inl rfl) rfl rfl rfl rfl ?_;simp -implicitDefEqProofs only[go_sem];exact .outR (wk.refl _) rfl
  by_cases kk:(nd t i).k=9\/(nd t i).k=10\/(nd t i).k=11\/(nd t i).k=12
  ·rcases kk with kk|kk|kk|kk
   all_goals
    simp -implicitDefEqProofs only[go_sem,kk,Gi];rw[rE,kk,rk_lt om,Ye,<-JcP g (a:=.int) hi A8];refine Kl (X:=[.dead]) (rmAll g ht (s:=[105,110,116]) hi hl) (.inl rfl) rfl rfl rfl rfl ?_;simp -implicitDefEqProofs only[go_sem];refine JW (t:=t) (of:=of) (R:=R) (X:=[.dead,.arr 1 [[S [98,111,111,108]]]]) 1 rfl rfl rfl ?_;simp -implicitDefEqProofs only[go_sem,Jy,frz,JM,Kn,Ga,Gb,Gc,Gg,Gl,Gm,Gd,Gh,if_true,show ¬(4:Nat)=1+4 by decide,if_false];refine Kl (X:=[.dead,.dead]) (QJ (l:=[TyX.bool]) (els:=[[S [98,111,111,108]]]) hi hl sM rfl (λ_=>rfl) (λa ha=>by rw[Gj.1 ha];decide)) (.inl rfl) rfl rfl rfl rfl ?_;simp -implicitDefEqProofs only[go_sem];exact .outR (wk.refl _) rfl
  by_cases kk:(nd t i).k=5\/(nd t i).k=6
  ·rcases kk with kk|kk
   all_goals
    simp -implicitDefEqProofs only[go_sem,kk,Gi];rw[rE,kk,rk_or om,Ye,<-JcP g (a:=.bool) hi A8];refine Kl (X:=[.dead]) (rmAll g ht (s:=[98,111,111,108]) hi hl) (.inl rfl) rfl rfl rfl rfl ?_;simp -implicitDefEqProofs only[go_sem];refine JW (t:=t) (of:=of) (R:=R) (X:=[.dead,.arr 1 [[S [98,111,111,108]]]]) 1 rfl rfl rfl ?_;simp -implicitDefEqProofs only[go_sem,Jy,frz,JM,Kn,Ga,Gb,Gc,Gg,Gl,Gm,Gd,Gh,if_true,show ¬(4:Nat)=1+4 by decide,if_false];refine Kl (X:=[.dead,.dead]) (QJ (l:=[TyX.bool]) (els:=[[S [98,111,111,108]]]) hi hl sM rfl (λ_=>rfl) (λa ha=>by rw[Gj.1 ha];decide)) (.inl rfl) rfl rfl rfl rfl ?_;simp -implicitDefEqProofs only[go_sem];exact .outR (wk.refl _) rfl
  by_cases kk:(nd t i).k=7\/(nd t i).k=8
  ·rcases kk with kk|kk
   all_goals
    simp -implicitDefEqProofs only[go_sem,kk,Gi];rw[rE,kk,rk_eq om,Ye,<-JcP g (a:=.int) hi A8,<-JcP g (a:=.bool) hi A8];refine Kl (X:=[.dead]) (rmAll g ht (s:=[105,110,116]) hi hl) (.inl rfl) rfl rfl rfl rfl ?_;have eI:allB t R.got i (tyT .int)=allB t R.got i [105,110,116]:=rfl;rw[eI]
    cases hb:allB t R.got i [105,110,116]with
    |true=>simp -implicitDefEqProofs only[go_sem,G9];refine JW (t:=t) (of:=of) (R:=R) (X:=[.dead,.arr 1 [[S [98,111,111,108]]]]) 1 rfl rfl rfl ?_;simp -implicitDefEqProofs only[go_sem,Jy,frz,JM,Kn,Ga,Gb,Gc,Gg,Gl,Gm,Gd,Gh,if_true,show ¬(4:Nat)=1+4 by decide,if_false];refine Kl (X:=[.dead,.dead]) (QJ (l:=[TyX.bool]) (els:=[[S [98,111,111,108]]]) hi hl sM rfl (λ_=>rfl) (λa ha=>by rw[Gj.1 ha];decide)) (.inl rfl) rfl rfl rfl rfl ?_;simp -implicitDefEqProofs only[go_sem];exact .outR (wk.refl _) rfl
    |false=>simp -implicitDefEqProofs only[go_sem,Bool.false_or];refine Kl (X:=[.dead]) (rmAll g ht (s:=[98,111,111,108]) hi hl) (gok rfl) rfl rfl rfl rfl ?_;simp -implicitDefEqProofs only[go_sem];refine JW (t:=t) (of:=of) (R:=R) (X:=[.dead,.arr 1 [[S [98,111,111,108]]]]) 1 rfl rfl rfl ?_;simp -implicitDefEqProofs only[go_sem,Jy,frz,JM,Kn,Ga,Gb,Gc,Gg,Gl,Gm,Gd,Gh,if_true,show ¬(4:Nat)=1+4 by decide,if_false];refine Kl (X:=[.dead,.dead]) (QJ (l:=[TyX.bool]) (els:=[[S [98,111,111,108]]]) hi hl sM rfl (λ_=>rfl) (λa ha=>by rw[Gj.1 ha];decide)) (.inl rfl) rfl rfl rfl rfl ?_;simp -implicitDefEqProofs only[go_sem];exact .outR (wk.refl _) rfl
  by_cases kk:(nd t i).k=18
  ·simp -implicitDefEqProofs only[go_sem,kk,Gi];rw[rE,kk,Jg1,Ye,<-spW_arr,<-Jax];have eI:(opT (Ku (KK t R.got i 1)) == tyT .int)=(opT (Ku (KK t R.got i 1)) == [105,110,116]):=rfl;rw[eI]
   cases hb:(spW (Ku (KK t R.got i 0))).1 == [91,93]with
   |true=>simp -implicitDefEqProofs only[go_sem,hb,Gs];refine JW (t:=t) (of:=of) (R:=R) (X:=[.dead,.arr 1 [[S (spW (Ku (KK t R.got i 0))).2]]]) 1 rfl rfl rfl ?_;simp -implicitDefEqProofs only[go_sem,Jy,frz,JM,Kn,Ga,Gb,Gc,Gg,Gl,Gm,Gd,Gh,if_true,show ¬(4:Nat)=1+4 by decide,if_false];refine Kl (X:=[.dead,.dead]) (QJ (l:=[(prt (Ku (KK t R.got i 0))).getD .int]) (els:=[[S (spW (Ku (KK t R.got i 0))).2]]) hi hl sM rfl (λ_=>arr_part (by rw[<-spW_arr];exact hb)) (λa ha=>by rw[Gj.1 ha];have:=Jai (Ma 0);omega)) (.inl rfl) rfl rfl rfl rfl ?_;simp -implicitDefEqProofs only[go_sem];exact .outR (wk.refl _) rfl
   |false=>simp -implicitDefEqProofs only[go_sem,hb,GG];refine JW (t:=t) (of:=of) (R:=R) (X:=[.dead,.arr 1 [[S (spW (Ku (KK t R.got i 0))).2]]]) 1 rfl rfl rfl ?_;simp -implicitDefEqProofs only[go_sem,Jy,frz,JM,Kn,Ga,Gb,Gc,Gg,Gl,Gm,Gd,Gh,if_true,show ¬(4:Nat)=1+4 by decide,if_false];refine Kl (X:=[.dead,.dead]) (QJ (l:=[(prt (Ku (KK t R.got i 0))).getD .int]) (els:=[[S (spW (Ku (KK t R.got i 0))).2]]) hi hl sM rfl (λh=>by cases h) (λa ha=>by rw[Gj.1 ha];have:=Jai (Ma 0);omega)) (.inl rfl) rfl rfl rfl rfl ?_;simp -implicitDefEqProofs only[go_sem];exact .outR (wk.refl _) rfl
  by_cases kk:(nd t i).k=4
  ·simp -implicitDefEqProofs only[go_sem,kk,Gi];rw[rE,kk,Jg4,Ye,<-cons_eq];have b1:=Ma 0
   cases hb:opT (Ku (KK t R.got i 0)) == []with
   |true=>
    simp -implicitDefEqProofs only[go_sem,hb,GQ,GG];refine JW (t:=t) (of:=of) (R:=R) (X:=[.dead,.arr 1 [[S (opT (Ku (KK t R.got i 1)))]]]) 1 rfl rfl rfl ?_;simp -implicitDefEqProofs only[go_sem,Jy,frz,JM,Kn,Ga,Gb,Gc,Gg,Gl,Gm,Gd,Gh,if_true,show ¬(4:Nat)=1+4 by decide,if_false];refine Kl (X:=[.dead,.dead]) (QJ (l:=[TyX.str ((prt (Ku (KK t R.got i 1))).getD .int)]) (els:=[[S (opT (Ku (KK t R.got i 1)))]]) hi hl sM rfl (λh=>by cases h) (λa ha=>by rw[Gj.1 ha];have:=Jai (Ma 1);simp only[tyT,Xh,Gw,Gr,Gn];omega)) (.inl rfl) rfl rfl rfl rfl ?_;simp -implicitDefEqProofs only[go_sem];exact .outR (wk.refl _) rfl
   |false=>
    have eC:=cons_eq (k0:=KK t R.got i 0) (k1:=KK t R.got i 1);rw[hb,Gt,Gs]at eC;simp -implicitDefEqProofs only[go_sem,hb,Gt,Gs]
    repeat refine And.intro (by first|omega|exact⟨om,om⟩|exact Jg) ?_
    refine JW (t:=t) (of:=of) (R:=R) (X:=[.dead,.arr 1 [[S (opT (Ku (KK t R.got i 1)))]]]) 1 rfl rfl rfl ?_;simp -implicitDefEqProofs only[go_sem,Jy,frz,JM,Kn,Ga,Gb,Gc,Gg,Gl,Gm,Gd,Gh,if_true,show ¬(4:Nat)=1+4 by decide,if_false];refine Kl (X:=[.dead,.dead]) (QJ (l:=[TyX.str ((prt (Ku (KK t R.got i 1))).getD .int)]) (els:=[[S (opT (Ku (KK t R.got i 1)))]]) hi hl sM rfl (λh=>str_whole (by have h2:=eC.symm.trans h;simp only[GD]at h2;exact h2.1)) (λa ha=>by rw[Gj.1 ha];have:=Jai (Ma 1);simp only[tyT,Xh,Gw,Gr,Gn];omega)) (.inl rfl) rfl rfl rfl rfl ?_;simp -implicitDefEqProofs only[go_sem];exact .outR (wk.refl _) rfl
  exfalso;omega
end
section
variable(g:GoodT t o)(ht:t.Fit){of:Lu}
include g ht
theorem rmExpr2(hi:i<t.nodes.length)(hk:25<=(nd t i).k/\(nd t i).k<=29)(Ba:of.length=t.nodes.length)(CK:(nd t i).k=26->of.getD i 0=(m:Int)/\m<t.nodes.length/\(nd t m).k=65)(hl:R.got.length=t.nodes.length)(Bd:Ln R.got)(hf:∀j,Qf (Jt R.got j)=true):RMe Gf 63 [.int .i64 (i:Int),.agg (nd t i).cv] t of R (R.ans i (Qh t m R.got i)) (.tup []):=by
 have Ag:=g.many;have Bh:=(JbR ht hi).kidn;have Af:(iz (nd t i).kids).length=(nd t i).kids.length:=Jf;have Ef:(gz R.got).length=t.nodes.length:=by rw[QH,hl]
 have hK:∀j,j<(nd t i).kids.length->(iz (nd t i).kids).getD j []=[.int .i64 ((Ju t i j:Nat):Int)]/\RMe Gf 103 [.int .i64 ((Ju t i j:Nat):Int)] t of R R (S (opT (Ku (KK t R.got i j))))/\Ju t i j<t.nodes.length/\(gz R.got).getD (Ju t i j) []=[txV (KK t R.got i j)]:=λj hj=>by
  have h1:=(Jz g hi hj).2.1;refine⟨by rw[JF hj,JE g hi hj],?_,om,?_⟩
  ·rw[XV g hi hj (JE g hi hj),Gp];exact rmKid om hl
  ·rw[XV g hi hj (JE g hi hj),Gp];exact Qc om
 have Ma:∀j,(opT (Ku (KK t R.got i j))).length<=140:=λj=>by
  unfold KK
  split
  ·exact Ja7 (hf _)
  ·simp[Ku,opT]
 have I9:∀j,(KK t R.got i j).length<=30/\∀a∈KK t R.got i j,(tyT a).length<=100000:=λj=>by
  unfold KK
  split
  ·exact⟨Bd _,λa ha=>by have:=Yt (hf _) ha;omega⟩
  ·exact⟨sM,λa ha=>by cases ha⟩
 obtain⟨c,Fb⟩:=JeD (Ku (KK t R.got i 0)) (by have:=Ma 0;omega);have rE:=JV (t:=t) (m:=m) (got:=R.got) (i:=i);refine QG (vfS c63_ok λN=>?_);by_cases kk:(nd t i).k=25
 ·skip
  have A8:=Xt g hi (.inl ⟨om,om⟩);have e0:((0:Int)<((nd t i).kids.length:Int))=True:=J5;have e1:((1:Int)<((nd t i).kids.length:Int))=False:=J7;obtain⟨w1,w2,w3,w4⟩:=Ym g hi (.inl kk);have hT:=YH g ht (Ju t i 0) om w3 w4;have Uu:=XW (t:=t) (i:=Ju t i 0) om;have eT:tyT (.str (tyN t (Ju t i 0)))=[115,116,114,101,97,109,32]++tyT (tyN t (Ju t i 0)):=rfl;have Da:=YG (of:=of) (b:=true) (l:=[TyX.str (tyN t (Ju t i 0))]) hi hl sM (λa ha=>by rw[Gj.1 ha,eT];simp only[Gw,Gr,Gn];omega);have eA:R.ans i (Qh t m R.got i)=R.give i true [TyX.str (tyN t (Ju t i 0))]:=by rw[rE,kk,rk_nil];rfl
  rw[eA];obtain⟨q1,q2,q3,q4⟩:=hK 0 om;simp -implicitDefEqProofs only[go_sem,Af,e0,e1,c63,hpR,Qb,Nd.cv,q1]
  repeat refine And.intro (by first|omega|exact⟨om,om⟩|exact Jg) ?_
  refine JW (t:=t) (of:=of) (R:=R) (X:=[.arr 5 [(nd t i).cv]]) 0 rfl rfl rfl ?_;simp -implicitDefEqProofs only[go_sem,Jy,frz,JM,Kn,Ga,Gb,Gc,Gg,hpR,Qb,show ¬(0:Nat)=0+4 by decide,if_false,if_true,Nd.cv,Gq,Gd,Gh];refine Kl (X:=[.dead]) q2 (.inl rfl) rfl rfl rfl rfl ?_;simp -implicitDefEqProofs only[go_sem,Af,e0,e1];refine J3 Fb ?_;simp -implicitDefEqProofs only[go_sem,kk,Gi];refine JJ [0,0,0,0,0,4,0,0,0,0,0,0,0,2] Jm vM ?_;simp -implicitDefEqProofs only[go_sem,hpR,Qb,Af,q1]
  repeat refine And.intro (by first|omega|exact⟨om,om⟩|exact Jg) ?_
  refine JdL (.inl rfl) hT ?_;simp -implicitDefEqProofs only[go_sem]
  repeat refine And.intro (by first|omega|exact⟨om,om⟩|exact Jg) ?_
  refine YC [[S (tyT (.str (tyN t (Ju t i 0))))]] (.inl rfl) rfl rfl rfl rfl ?_;simp -implicitDefEqProofs only[go_sem];refine Jaq (.inl rfl) (Da.on (X:=[.dead]) rfl rfl) ?_;simp -implicitDefEqProofs only[go_sem];exact .outR (wk.refl _) rfl
 by_cases kk:(nd t i).k=27
 ·skip
  have A8:=kids_if g hi kk;have e0:((0:Int)<((nd t i).kids.length:Int))=True:=J5;have e1:((1:Int)<((nd t i).kids.length:Int))=True:=J5;obtain⟨s1,s2,s3,s4⟩:=hK 2 om;have SQ:=Jcm (KK t R.got i 1) (KK t R.got i 2) (by have:=(I9 1).1;omega);have eB:(opT (Ku (KK t R.got i 0)) == [98,111,111,108])=(KK t R.got i 0 == [TyX.bool]):=Jax (a:=.bool);have Da:=λb=>YG (of:=of) (b:=b) (l:=KK t R.got i 1) hi hl (by have:=(I9 1).1;omega) (I9 1).2
  rw[rE,kk,rk_if,Ye];obtain⟨q1,q2,q3,q4⟩:=hK 0 om;obtain⟨r1,r2,r3,r4⟩:=hK 1 om;simp -implicitDefEqProofs only[go_sem,Af,e0,e1,c63,hpR,Qb,Nd.cv,q1]
  repeat refine And.intro (by first|omega|exact⟨om,om⟩|exact Jg) ?_
  refine JW (t:=t) (of:=of) (R:=R) (X:=[.arr 5 [(nd t i).cv]]) 0 rfl rfl rfl ?_;simp -implicitDefEqProofs only[go_sem,Jy,frz,JM,Kn,Ga,Gb,Gc,Gg,hpR,Qb,show ¬(0:Nat)=0+4 by decide,if_false,if_true,Nd.cv,Gq,Gd,Gh];refine Kl (X:=[.dead]) q2 (.inl rfl) rfl rfl rfl rfl ?_;simp -implicitDefEqProofs only[go_sem,Af,e0,e1,r1]
  repeat refine And.intro (by first|omega|exact⟨om,om⟩|exact Jg) ?_
  refine Kl (X:=[.dead]) r2 (.inl rfl) rfl rfl rfl rfl ?_;simp -implicitDefEqProofs only[go_sem,Af,e0,e1];refine J3 Fb ?_;simp -implicitDefEqProofs only[go_sem,kk,Gi];refine JP Jm vM ?_;simp -implicitDefEqProofs only[go_sem,hpR,Qb,Af,r1,Ef,r4]
  repeat refine And.intro (by first|omega|exact⟨om,om⟩|exact Jg) ?_
  refine JJ [0,0,0,0,0,0,0,0,0,4,0,0,0,0,1,1,0,0,0,2] Jm vM ?_
  cases hb:(KK t R.got i 0 == [TyX.bool]) with
  |false=>rw[hb]at eB;simp -implicitDefEqProofs only[go_sem,hpR,Qb,eB,GG];refine Jaq (.inl rfl) ((Da false).on (X:=[.dead]) rfl rfl) ?_;simp -implicitDefEqProofs only[go_sem];exact .outR (wk.refl _) rfl
  |true=>
   rw[hb]at eB;simp -implicitDefEqProofs only[go_sem,hpR,Qb,eB,Af,s1,Ef,s4,Gs]
   repeat refine And.intro (by first|omega|exact⟨om,om⟩|exact Jg) ?_
   refine JdL (gok rfl) SQ ?_;simp -implicitDefEqProofs only[go_sem];refine Jaq (.inl rfl) ((Da _).on (X:=[.dead]) rfl rfl) ?_;simp -implicitDefEqProofs only[go_sem];exact .outR (wk.refl _) rfl
 by_cases kk:(nd t i).k=28
 ·skip
  obtain⟨n,b,n1,n2,n3,_⟩:=X7 g hi kk;change (nd t i).n=n at n1;change b<(nd t i).kids.length at n3;have e0:((0:Int)<((nd t i).kids.length:Int))=True:=J5;have e1:((1:Int)<((nd t i).kids.length:Int))=True:=J5;obtain⟨s1,s2,s3,s4⟩:=hK n om;obtain⟨t1,t2,t3,t4⟩:=hK ((nd t i).kids.length-1) om;have hO:=rmOne (of:=of) s3 hl;rw[show Jt R.got (Ju t i n)=KK t R.got i n by rw[XV g hi om (JE g hi om),Gp]]at hO;have Ib:=Yk g ht hi om;have MW:Ji t i=Ju t i ((nd t i).kids.length-1):=rfl;rw[MW]at Ib;have eB:(opT (Ku (KK t R.got i n)) == [98,111,111,108])=(KK t R.got i n == [TyX.bool]):=Jax (a:=.bool);have Da:=λb=>YG (of:=of) (b:=b) (l:=KK t R.got i ((nd t i).kids.length-1)) hi hl (by have:=(I9 ((nd t i).kids.length-1)).1;omega) (I9 ((nd t i).kids.length-1)).2
  rw[rE,kk,n1,Gp,Jg2,Ye];obtain⟨q1,q2,q3,q4⟩:=hK 0 om;obtain⟨r1,r2,r3,r4⟩:=hK 1 om;simp -implicitDefEqProofs only[go_sem,Af,e0,e1,c63,hpR,Qb,Nd.cv,q1]
  repeat refine And.intro (by first|omega|exact⟨om,om⟩|exact Jg) ?_
  refine JW (t:=t) (of:=of) (R:=R) (X:=[.arr 5 [(nd t i).cv]]) 0 rfl rfl rfl ?_;simp -implicitDefEqProofs only[go_sem,Jy,frz,JM,Kn,Ga,Gb,Gc,Gg,hpR,Qb,show ¬(0:Nat)=0+4 by decide,if_false,if_true,Nd.cv,Gq,Gd,Gh];refine Kl (X:=[.dead]) q2 (.inl rfl) rfl rfl rfl rfl ?_;simp -implicitDefEqProofs only[go_sem,Af,e0,e1,r1]
  repeat refine And.intro (by first|omega|exact⟨om,om⟩|exact Jg) ?_
  refine Kl (X:=[.dead]) r2 (.inl rfl) rfl rfl rfl rfl ?_;simp -implicitDefEqProofs only[go_sem,Af,e0,e1];refine J3 Fb ?_;simp -implicitDefEqProofs only[go_sem,kk,Gi];refine JJ [0,0,0,0,0,0,0,0,0,4,0,0,0,0,4,0,0,0,4,0,0,1,1,2] Jm vM ?_;simp -implicitDefEqProofs only[go_sem,hpR,Qb,Af,n1,s1]
  repeat refine And.intro (by first|omega|exact⟨om,om⟩|exact Jg) ?_
  refine vy_rm (R:=R) (X:=[.dead]) hO (.inl rfl) rfl rfl rfl rfl ?_;simp -implicitDefEqProofs only[go_sem,hpR,Qb,eB];refine JdL (.inl rfl) Ib ?_;simp -implicitDefEqProofs only[go_sem,Ef,t4]
  repeat refine And.intro (by first|omega|exact⟨om,om⟩|exact Jg) ?_
  refine Jaq (.inl rfl) ((Da _).on (X:=[.dead]) rfl rfl) ?_;simp -implicitDefEqProofs only[go_sem];exact .outR (wk.refl _) rfl
 by_cases kk:(nd t i).k=29
 ·skip
  have h2:=arr_two (K:=⟨t,[],[],[]⟩) g hi kk;change 2<=(nd t i).kids.length at h2;have e0:((0:Int)<((nd t i).kids.length:Int))=True:=J5;have e1:((1:Int)<((nd t i).kids.length:Int))=True:=J5;have hC:=rmArray g ht (of:=of) (m:=m) hi kk hl hf;simp only[Nd.cv,kk,Gi]at hC;obtain⟨q1,q2,q3,q4⟩:=hK 0 om;obtain⟨r1,r2,r3,r4⟩:=hK 1 om;simp -implicitDefEqProofs only[go_sem,Af,e0,e1,c63,hpR,Qb,Nd.cv,q1]
  repeat refine And.intro (by first|omega|exact⟨om,om⟩|exact Jg) ?_
  refine JW (t:=t) (of:=of) (R:=R) (X:=[.arr 5 [(nd t i).cv]]) 0 rfl rfl rfl ?_;simp -implicitDefEqProofs only[go_sem,Jy,frz,JM,Kn,Ga,Gb,Gc,Gg,hpR,Qb,show ¬(0:Nat)=0+4 by decide,if_false,if_true,Nd.cv,Gq,Gd,Gh];refine Kl (X:=[.dead]) q2 (.inl rfl) rfl rfl rfl rfl ?_;simp -implicitDefEqProofs only[go_sem,Af,e0,e1,r1]
  repeat refine And.intro (by first|omega|exact⟨om,om⟩|exact Jg) ?_
  refine Kl (X:=[.dead]) r2 (.inl rfl) rfl rfl rfl rfl ?_;simp -implicitDefEqProofs only[go_sem,Af,e0,e1];refine J3 Fb ?_;simp -implicitDefEqProofs only[go_sem,kk,Gi];refine Kl (X:=[.dead]) hC (.inl rfl) rfl rfl rfl rfl ?_;simp -implicitDefEqProofs only[go_sem];exact .outR (wk.refl _) rfl
 by_cases kk:(nd t i).k=26
 ·skip
  obtain⟨f1,f2,f3⟩:=CK kk;have hC:=rmCall g ht (of:=of) (m:=m) hi kk Ba f1 f2 f3 hl;simp only[Nd.cv,kk,Gi]at hC;by_cases l0:(nd t i).kids.length=0
  ·skip
   have e0:((0:Int)<((nd t i).kids.length:Int))=False:=J7;have e1:((1:Int)<((nd t i).kids.length:Int))=False:=J7;rw[KK_ge om]at Fb;simp -implicitDefEqProofs only[go_sem,Af,e0,e1,c63,hpR,Qb,Nd.cv];refine JW (t:=t) (of:=of) (R:=R) (X:=[.arr 5 [(nd t i).cv]]) 0 rfl rfl rfl ?_;simp -implicitDefEqProofs only[go_sem,Jy,frz,JM,Kn,Ga,Gb,Gc,Gg,hpR,Qb,show ¬(0:Nat)=0+4 by decide,if_false,if_true,Nd.cv,Gq,Gd,Gh];refine J3 Fb ?_;simp -implicitDefEqProofs only[go_sem,kk,Gi];refine Kl (X:=[.dead]) hC (.inl rfl) rfl rfl rfl rfl ?_;simp -implicitDefEqProofs only[go_sem];exact .outR (wk.refl _) rfl
  by_cases l1:(nd t i).kids.length=1
  ·skip
   have e0:((0:Int)<((nd t i).kids.length:Int))=True:=J5;have e1:((1:Int)<((nd t i).kids.length:Int))=False:=J7;obtain⟨q1,q2,q3,q4⟩:=hK 0 om;simp -implicitDefEqProofs only[go_sem,Af,e0,e1,c63,hpR,Qb,Nd.cv,q1]
   repeat refine And.intro (by first|omega|exact⟨om,om⟩|exact Jg) ?_
   refine JW (t:=t) (of:=of) (R:=R) (X:=[.arr 5 [(nd t i).cv]]) 0 rfl rfl rfl ?_;simp -implicitDefEqProofs only[go_sem,Jy,frz,JM,Kn,Ga,Gb,Gc,Gg,hpR,Qb,show ¬(0:Nat)=0+4 by decide,if_false,if_true,Nd.cv,Gq,Gd,Gh];refine Kl (X:=[.dead]) q2 (.inl rfl) rfl rfl rfl rfl ?_;simp -implicitDefEqProofs only[go_sem,Af,e0,e1];refine J3 Fb ?_;simp -implicitDefEqProofs only[go_sem,kk,Gi];refine Kl (X:=[.dead]) hC (.inl rfl) rfl rfl rfl rfl ?_;simp -implicitDefEqProofs only[go_sem];exact .outR (wk.refl _) rfl
  have e0:((0:Int)<((nd t i).kids.length:Int))=True:=J5;have e1:((1:Int)<((nd t i).kids.length:Int))=True:=J5;obtain⟨q1,q2,q3,q4⟩:=hK 0 om;obtain⟨r1,r2,r3,r4⟩:=hK 1 om;simp -implicitDefEqProofs only[go_sem,Af,e0,e1,c63,hpR,Qb,Nd.cv,q1]
  repeat refine And.intro (by first|omega|exact⟨om,om⟩|exact Jg) ?_
  refine JW (t:=t) (of:=of) (R:=R) (X:=[.arr 5 [(nd t i).cv]]) 0 rfl rfl rfl ?_;simp -implicitDefEqProofs only[go_sem,Jy,frz,JM,Kn,Ga,Gb,Gc,Gg,hpR,Qb,show ¬(0:Nat)=0+4 by decide,if_false,if_true,Nd.cv,Gq,Gd,Gh];refine Kl (X:=[.dead]) q2 (.inl rfl) rfl rfl rfl rfl ?_;simp -implicitDefEqProofs only[go_sem,Af,e0,e1,r1]
  repeat refine And.intro (by first|omega|exact⟨om,om⟩|exact Jg) ?_
  refine Kl (X:=[.dead]) r2 (.inl rfl) rfl rfl rfl rfl ?_;simp -implicitDefEqProofs only[go_sem,Af,e0,e1];refine J3 Fb ?_;simp -implicitDefEqProofs only[go_sem,kk,Gi];refine Kl (X:=[.dead]) hC (.inl rfl) rfl rfl rfl rfl ?_;simp -implicitDefEqProofs only[go_sem];exact .outR (wk.refl _) rfl
 exfalso;omega
end
end Go.Cm
end
end
