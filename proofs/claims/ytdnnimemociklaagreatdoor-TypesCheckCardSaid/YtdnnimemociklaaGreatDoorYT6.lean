/-
  A part of the proof. Conditions: none.
-/
import Derived.Test.YtdnnimemociklaaGreatDoorYT3
set_option linter.unusedSimpArgs false
set_option linter.unusedVariables false
open Go.Proofs.Tryz renaming prog->Ga
open Int renaming cast_ofNat_Int->Gl,toNat_natCast->Gm
open List renaming set_cons_zero->Gd,map_cons->Gb,set_cons_succ->Gg,map_nil->Gc,drop_zero->Gf,length_cons->Gi,length_nil->Gh,getD_cons_zero->Gn,getD_eq_getElem?_getD->Gq,getElem?_eq_getElem->Gs,mem_singleton->Gp,take_succ_cons->Gt,take_zero->Gr,take_of_length_le->GH,replicate->Gy,all_eq_true->GA,mem_range->Gz,getElem_mem->GD,take_length->GI,range->Gx,length_append->GL,drop_succ_cons->GN,length_take->GX,ext_getElem->GY,length_pos_iff->G7,getElem?_replicate->Ha,all_cons->GZ,all_nil->G5,not_mem_nil->Hd,length_map->He,all_append->Hf,mem_cons->Hg,length_eq_one_iff->Hq,mem_map->Hl,length_filter_le->Hr,getElem_of_mem->Ht,getElem?_range->Hu,length_range->Hw,getElem?_map->Hy,foldl_append->Hz,length_drop->HV,getElem_set->HY,headD_cons->HZ,any_cons->H5
open Bool renaming not_false->Gw,true_and->Gu,not_true->Gv,eq_false_iff->GJ,false_eq_true->GM,false_and->GG,and_eq_true->GQ,eq_iff_iff->GR,and_true->G6,and_assoc->H6,false_or->H7,true_or->H8
open Nat renaming zero_add->Gj,reduceEqDiff->GU,le_refl->GK,lt_or_ge->GV,sub_zero->G8
open Option renaming isSome_iff_exists->Hm,getD_some->G9,isSome_none->Ho
noncomputable section
section
set_option maxRecDepth 100000
set_option maxHeartbeats 40000000
open Go.Proofs
namespace Go.Cm
variable {a:Option TyX}{l:TL}{f i m n:Nat}{t:Tr}{o:Lx}{R R':RS}{d:LK}{ge:Option (Nat×Bool)}{res y:CV}{X:Lv}{els:LQ}{α:Type}{b:Bool}{got:List TL}{r:Option TL}{e node:Int}
theorem izo {a:Int}:iz [a]=[[.int .i64 a]]:=rfl
theorem one_kid {l:Lx}(h:l.length=1):∃a,l=[a]:=by
 match l,h with
 |[a],_=>exact⟨_,rfl⟩
theorem refOther2 (t:Tr)(x:Nd)(Bj:x.kids.length<=30)(hk:x.k=60\/x.k=61):Fn Ga 74 [t.cv,.agg x.cv] (S (tyT (if x.k=60 then .int else .bool))):=by
 obtain⟨k,text,n,kids,pl⟩:=x
 dsimp only at *
 rcases hk with rfl|rfl
 all_goals
  refine fcS c74_ok λN0=>?_
  have Ae:(iz kids).length=kids.length:=Jf;simp only[c74,go_sem,Tr.cv,Tr.row,Ja,Nd.cv,Gl,Ae];exact⟨Jg,rfl⟩
theorem refOtherN (t:Tr)(x:Nd)(hk:x.k=62\/x.k=63){a:Nat}{u:TyX}(ha:x.kids=[(a:Int)])(hu:Fn Ga 47 [t.cv,.int .i64 (a:Int)] (S (tyT u)))(hl:(tyT u).length<=100000):Fn Ga 74 [t.cv,.agg x.cv] (S (tyT (if x.k=62 then .arr u else .str u))):=by
 obtain⟨k,text,n,kids,pl⟩:=x
 dsimp only at *
 subst ha;have e1:tyT (.arr u)=[91]++tyT u++[93]:=rfl;have e2:tyT (.str u)=[115,116,114,101,97,109,32]++tyT u:=rfl;rcases hk with rfl|rfl
 ·rw[if_pos rfl,e1];clear e1 e2;generalize tyT u=ua at *;refine fcS c74_ok λN0=>?_
  repeat first|refine⟨by first|omega|decide|exact Jg,?_⟩|refine Kc (.inl rfl) (by assumption) ?_|refine JU (by assumption) ?_|refine JQ Jm vk ?_|simp only[c74,go_sem,Tr.cv,Tr.row,Ja,Nd.cv,Gl,izo]
  all_goals first|omega|rfl|exact⟨om,rfl⟩|exact Jg|decide|exact⟨vk,vk⟩
 ·rw[if_neg vk,e2];clear e1 e2;generalize tyT u=ua at *;refine fcS c74_ok λN0=>?_
  repeat first|refine⟨by first|omega|decide|exact Jg,?_⟩|refine Kc (.inl rfl) (by assumption) ?_|refine JU (by assumption) ?_|refine JQ Jm vk ?_|simp only[c74,go_sem,Tr.cv,Tr.row,Ja,Nd.cv,Gl,izo]
  all_goals first|omega|rfl|exact⟨om,rfl⟩|exact Jg|decide|exact⟨vk,vk⟩
theorem refTextK (t:Tr)(hi:i<t.nodes.length)(u:LA)(hk:40<=(nd t i).k)(hO:Fn Ga 74 [t.cv,.agg (nd t i).cv] (S u)):Fn Ga 47 [t.cv,.int .i64 (i:Int)] (S u):=by
 have hg:=JX hi;have hE:=JeQ (nd t i).k;have hN:inN 1 29 (nd t i).k=false:=by unfold inN;simp;omega
 rw[hN]at hE;generalize nd t i=x at *;obtain⟨k,text,n,kids,pl⟩:=x
 dsimp only[Nd.cv]at *
 refine fcS c47_ok λN0=>?_
 have Ai:∀m:Nat,m<40->((k:Int) == (m:Int))=false:=λm hm=>kb om
 have n1:=Ai 1 vk;have n2:=Ai 2 vk;have n3:=Ai 3 vk;have n4:=Ai 4 vk;have n18:=Ai 18 vk;have n19:=Ai 19 vk;have n20:=Ai 20 vk;have n21:=Ai 21 vk;have n22:=Ai 22 vk;have n23:=Ai 23 vk;have n24:=Ai 24 vk;have n25:=Ai 25 vk;have n26:=Ai 26 vk;have n27:=Ai 27 vk;have n28:=Ai 28 vk;have n29:=Ai 29 vk;simp only[Gl]at n1 n2 n3 n4 n18 n19 n20 n21 n22 n23 n24 n25 n26 n27 n28 n29;simp only[c47,go_sem,Tr.cv,Tr.row,Ja,Nd.cv,Gl,hg,n1,n2,n3,n4,n18,n19,n20,n21,n22,n23,n24,n25,n26,n27,n28,n29]
 repeat (refine⟨by first|omega|decide|exact Jg,?_⟩)
 refine JU hE ?_;simp only[go_sem,Tr.row,Nd.cv,hg];refine JU hO ?_;simp only[go_sem]
 all_goals rfl
section
variable(g:GoodT t o)(ht:t.Fit)
include g ht
theorem YO:∀(i:Nat),i<t.nodes.length->60<=(nd t i).k->(nd t i).k<=63->Fn Ga 47 [t.cv,.int .i64 (i:Int)] (S (tyT (tyN t i))):=by
 intro i
 induction i using Nat.strongRecOn with
 |_ i ih=>
  intro hi h1 h2;have Ag:=g.many;refine refTextK t hi _ om ?_;rw[tyN_eq g hi h1 h2];by_cases hk:(nd t i).k=60\/(nd t i).k=61
  ·have h:=refOther2 t (nd t i) (JbM ht hi).kidn hk;rcases hk with hk|hk
   ·rw[if_pos hk]at h|-;exact h
   ·rw[iN7]at h;rw[iN7,if_pos hk];exact h
  ·obtain⟨q1,q2,q3,q4⟩:=Yp g hi (.inr (.inl om));have hl:=Xu g hi (.inr (.inr (.inr om)));obtain⟨a,ha⟩:=one_kid hl;have hr:=g.kid hi (k:=a) (by change a∈(nd t i).kids;rw[ha];simp);obtain⟨a,rfl⟩:∃a':Nat,a=a':=⟨a.toNat,om⟩;have Dl:Ju t i 0=a:=by unfold Ju;rw[ha];rfl
   rw[Dl]at q2 q3 q4|-;have h:=refOtherN t (nd t i) om ha (ih a q2 om q3 q4) (by have:=X0 (t:=t) (i:=a) om;omega);rcases (show (nd t i).k=62\/(nd t i).k=63 by omega) with Aq|Aq
   ·rw[if_pos Aq]at h;rw[iN7,iN7,if_pos Aq];exact h
   ·rw[iN7]at h;rw[iN7,iN7,iN7];exact h
end
section
variable {P:Program}{E:Env}{n0:Nat}{N:Fr}{Q:Exit->Lu->Lv->Prop}{H:Lv}{T:Lu}{k:LM}{of:Lx}
theorem Ko {d:Option Nat}{ags:LP}{l:LD}{args:Lu}(hM:RMe P f args t of R R' res)(hg:GOk T ge)(ha:ags.map (Kg T)=.ptr 0 0 0::args)(hH:H=hpR t of R X)(hc:Jk args=true)(hr:res.closed=true)(h:KD P E n0 N Q (.ops l::k) (put T d res) (hpR t of R' X)):Ok P E n0 N Q (.ops (⟨d,.call f ags,ge⟩::l)::k) T H:=by subst hH;refine Kt hg (by rw[ha];exact hM.on hc hr) ?_;rintro v H' ⟨rfl,rfl⟩;exact h
theorem Kon {d:Option Nat}{ags:LP}{l:LD}{args:Lu}(hM:RMe P f args t of R R' res)(h:KD P E n0 N Q (.ops l::k) (put T d res) (hpR t of R' X))(ha:ags.map (Kg T)=.ptr 0 0 0::args:=by exact rfl)(hH:H=hpR t of R X:=by exact rfl)(hc:Jk args=true:=by exact rfl)(hr:res.closed=true:=by exact rfl):Ok P E n0 N Q (.ops (⟨d,.call f ags,none⟩::l)::k) T H:=Ko hM (.inl rfl) ha hH hc hr h
theorem J5{z:Nat}(id:Nat)(hH:H=hpR t of R X)(hX:X[id]? = some (.arr z els))(hc:Jq els=true)(h:KD P E n0 N Q k (JK (id+4) z els T) (hpR t of R ((X.map (Kn (id+4) z els)).set id .dead))):Ok P E n0 N Q k T H:=by subst hH;refine Je (id:=id+4) (z:=z) (els:=els) hX hc ?_;rw[frz_hpR];exact h
theorem four{H:List α}{a b c d:α}(h0:H[0]? = some a)(h1:H[1]? = some b)(h2:H[2]? = some c)(h3:H[3]? = some d):∃X,H=a::b::c::d::X:=by
 match H,h0,h1,h2,h3 with
 |a'::b'::c'::d'::X,h0,h1,h2,h3=>simp at h0 h1 h2 h3;exact⟨X,by rw[h0,h1,h2,h3]⟩
variable {l:LD}{bs:LB}
theorem vy_rm {d:Option Nat}{ags:LP}{args:Lu}(hM:RMe P f args t of R R res)(hg:GOk T ge)(ha:ags.map (Kg T)=.ptr 0 0 0::args)(hH:H=hpR t of R X)(hc:Jk args=true)(hr:res.closed=true)(h:vdy P E n0 N Q k l bs (put T d res) H):vdyR P E n0 N Q none d (.call f ags) ge 4 k l bs T H:=by
 refine⟨res,H,?_,h⟩;show HS P E _ T H res H (.on [1,2,3,4,5],.on []);subst hH;refine⟨λ_ _=>rfl,λT2 H2 ag hx=>?_⟩;have DZ:∀i,i<4->H2[i]? = (hpR t of R X)[i]?:=λi hi=>by have:=hx (i+1) (by simp only[Foot.has,Hg,Hd,or_false];omega);simpa [hat]using this
 obtain⟨X2,rfl⟩:=four (DZ 0 vk) (DZ 1 vk) (DZ 2 vk) (DZ 3 vk);have e2:ags.map (Kg T)=ags.map (Kg T2):=Xi (Jj ag).2;refine⟨_,λy hy=>(by cases hy),λ_ _=>rfl,λn0 N Q k l Ao=>Jdl (Yh ag hg) (by rw[<-e2,ha];exact hM.on (X:=X2) hc hr) ?_⟩;rintro v' H' ⟨rfl,rfl⟩;exact Ao
end
section
variable{of:Lx}
def RS.fail (R:RS)(i:Nat):RS:=if R.bad<0 then { R with bad:=i } else R
theorem Jcu:RMe Ga 112 [.int .i64 (i:Int)] t of R (R.fail i) (.tup []):=by
 obtain⟨got,dn,fg,bad⟩:=R;refine QH (Ki c112_ok λN=>?_);unfold RS.fail
 dsimp only
 by_cases h:bad<0
 ·have d:(bad<0)=True:=eq_true h;rw[if_pos h];simp only[c112,go_sem,hpR,Qc,d]
  repeat refine anO ?_
  exact .done (wk.refl _)
 ·have d:(bad<0)=False:=eq_false h;rw[if_neg h];simp only[c112,go_sem,hpR,Qc,d];exact .done (wk.refl _)
theorem rmOne(hi:i<t.nodes.length)(hl:R.got.length=t.nodes.length):RMe Ga 110 [.int .i64 (i:Int)] t of R R (S (opT (Kz (Jr R.got i)))):=by
 have hg:=KV (l:=R.got) (i:=i) om;have AO:(gz R.got).length=t.nodes.length:=by rw[QB,hl]
 refine QH (Ki c110_ok λN=>?_);generalize Jr R.got i=l at *;rcases l with _|⟨a,_|⟨b,l⟩⟩
 ·simp only[c110,go_sem,hpR,Qc,hg,AO,txV,txz,Gc,Gh];exact⟨⟨om,om⟩,om,.done (wk.refl _)⟩
 ·have d1:(((1:Nat):Int) != 1)=false:=rfl;simp only[c110,go_sem,hpR,Qc,hg,AO,txV,txz,Gc,Gb,Gi,Gh,d1]
  repeat refine anO ?_
  exact .done (wk.refl _)
 ·have d1:(((l.length+1+1:Nat):Int) != 1)=true:=by simp;omega
  simp only[c110,go_sem,hpR,Qc,hg,AO,txV,txz,Gb,Gi,Gh,He,d1];exact⟨⟨om,om⟩,om,.done (wk.refl _)⟩
theorem rmKid(hi:i<t.nodes.length)(hl:R.got.length=t.nodes.length):RMe Ga 103 [.int .i64 (i:Int)] t of R R (S (opT (Kz (Jr R.got i)))):=by refine QH (Ki c103_ok λN=>?_);simp only[c103,go_sem,hpR,Qc];refine Kon (X:=[]) (rmOne hi hl) ?_;simp only[go_sem];exact .done (wk.refl _)
end
def cS (l:LA):Nat:=(l.filter λb=>b == 91 || b == 115).length
theorem cS_app (a b:LA):cS (a++b)=cS a+cS b:=by simp[cS]
theorem cS_ty:∀a,cS (tyT a)+1=tyP a
 |.int=>rfl
 |.bool=>rfl
 |.arr a=>by have:=cS_ty a;rw[tyT,tyP,<-this,show (91::(tyT a++[93]):LA)=[91]++tyT a++[93] from rfl,cS_app,cS_app,show cS [91]=1 from rfl,show cS [93]=0 from rfl];omega
 |.str a=>by have:=cS_ty a;rw[tyT,tyP,<-this,cS_app,show cS Xg=1 from rfl];omega
theorem cS_take {l:LA}(h:i<l.length):cS (l.take (i+1))=cS (l.take i)+if (l.getD i 0 == 91 || l.getD i 0 == 115)=true then 1 else 0:=by
 rw[List.take_succ_eq_append_getElem h,cS_app,show l.getD i 0=l[i] by rw[Gq,Gs h];rfl]
 congr 1
 simp only[cS,List.filter_cons,List.filter_nil]
 split <;> rfl
theorem cS_le (l:LA):cS l<=l.length:=Hr _ _
theorem refPartsL (l:LA)(hl:l.length<=100000):Fn Ga 155 [S l] (.int .i64 ((cS l+1:Nat):Int)):=by
 refine Jb c155_ok rfl rfl λN=>?_
 simp only[c155,go_sem];refine JL (I:=λi:Nat=>i<=l.length) (inv:=λi=>gp [(0,S l),(2,.int .i64 ((cS (l.take i)+1:Nat):Int)),(0,.int .i64 (i:Int))] 19) (hp:=λ_=>[]) (μ:=λi=>l.length-i) 0 om ?_ rfl ?_
 ·simp[forget,gp,cS]
 ·intro i hi;have h0:=cS_le (l.take i);rw[GX]at h0;by_cases Ab:i<l.length
  ·have d1:=dtT i l.length;have Al:=cS_take Ab;have q1:(((l.getD i 0).toNat:Int) == 91)=(l.getD i 0 == 91):=deq 91 vk _;have q2:(((l.getD i 0).toNat:Int) == 115)=(l.getD i 0 == 115):=deq 115 vk _
   cases h1:l.getD i 0 == 91 with
   |true=>
    rw[h1]at q1 Al;rw[if_pos (H8 _)]at Al;simp only[go_sem,d1,q1]
    repeat refine aN ?_
    refine⟨i+1,om,om,?_⟩;rw[Al];simp[forget]
   |false=>
    rw[h1]at q1 Al
    cases h2:l.getD i 0 == 115 with
    |true=>
     rw[h2]at q2 Al;rw[if_pos vk]at Al;simp only[go_sem,d1,q1,q2]
     repeat refine aN ?_
     refine⟨i+1,om,om,?_⟩;rw[Al];simp[forget]
    |false=>
     rw[h2]at q2 Al;rw[if_neg vk,Nat.add_zero]at Al;simp only[go_sem,d1,q1,q2]
     repeat refine aN ?_
     refine⟨i+1,om,om,?_⟩;rw[Al];simp[forget]
  ·have d1:=dfF i l.length;have CO:i=l.length:=om;subst CO;simp only[go_sem,d1,GI]
theorem refParts4 (a:TyX)(hl:(tyT a).length<=100000):Fn Ga 155 [S (tyT a)] (.int .i64 (tyP a:Int)):=by
 have:=refPartsL (tyT a) hl
 rwa [cS_ty]at this
def spW:Option TyX->LA×LA
 |none=>([],[])
 |some .int=>(tyT .int,[])
 |some .bool=>(tyT .bool,[])
 |some (.arr b)=>([91,93],tyT b)
 |some (.str b)=>([115,116,114,101,97,109],tyT b)
theorem Jf6 {b:TyX}(hl:(tyT b).length<=100000){x y:LA}{c:Bool}(h:Fn Ga 104 [S (tyT b)] (.tup [S x,S y,.bool c])):∃c':Bool,Fn Ga 154 [S (tyT b)] (.bool c'):=by
 have hp:=refParts4 b hl
 cases c with
 |false=>
  refine⟨false,?_⟩;refine fcS c154_ok λN=>?_
  simp only[c154,go_sem];refine JU h ?_;simp only[go_sem]
 |true=>
  refine⟨decide ((tyP b:Int)<=20),?_⟩;refine fcS c154_ok λN=>?_
  simp only[c154,go_sem];refine JU h ?_;simp only[go_sem];refine Ka (gok rfl) hp ?_;simp only[go_sem]
theorem JeM:∀a:TyX,(tyT a).length<=100000->∃c:Bool,Fn Ga 104 [S (tyT a)] (.tup [S (spW (some a)).1,S (spW (some a)).2,.bool c])
 |.int,hl=>by
  refine⟨true,?_⟩;refine fcS c104_ok λN=>?_
  simp only[c104,go_sem,tyT,spW,beq_self_eq_true]
 |.bool,hl=>by
  refine⟨true,?_⟩;refine fcS c104_ok λN=>?_
  simp only[c104,go_sem,tyT,spW,beq_self_eq_true,show (([98,111,111,108]:LA) == [105,110,116])=false from vk]
 |.arr b,hl=>by
  have hb:(tyT b).length<=100000:=by simp only[tyT,Gi,GL,Gh]at hl;omega
  obtain⟨c,hc⟩:=JeM b hb;obtain⟨c',hI⟩:=Jf6 hb hc;refine⟨c',?_⟩;have Ey:0<(tyT b).length:=G7.2 Jes;obtain⟨l,e,h1,h2,h3,h4⟩:=arr_facts (b:=b);rw[e]at hl|-;have f1:(l == [105,110,116])=false:=by rw[beq_eq_false_iff_ne];rintro rfl;cases h2
  have f2:(l == [98,111,111,108])=false:=by rw[beq_eq_false_iff_ne];rintro rfl;cases h2
  have d1:((2:Int)<(l.length:Int))=True:=J4;have Pz:((l.length:Int)-1)=((l.length-1:Nat):Int):=om;refine fcS c104_ok λN=>?_
  simp only[c104,go_sem,f1,f2,d1,h2,Pz,h3,show ((((91:UInt8).toNat:Nat):Int) == 91)=true from rfl,show ((((93:UInt8).toNat:Nat):Int) == 93)=true from rfl]
  repeat refine aN ?_
  refine JH [0,0,0,0,0,0,0,0,0,0,0,0,0,0] Jm vM ?_;simp only[go_sem,Pz,h4]
  repeat refine aN ?_
  refine Jdx (.inl rfl) hI ?_;simp only[go_sem,spW]
  try rfl
 |.str b,hl=>by
  have hb:(tyT b).length<=100000:=by simp only[tyT,Xg,GL]at hl;omega
  obtain⟨c,hc⟩:=JeM b hb;obtain⟨c',hI⟩:=Jf6 hb hc;refine⟨c',?_⟩;have Ey:0<(tyT b).length:=G7.2 Jes;obtain⟨l,e,h1,h2,h3,h4⟩:∃l,tyT (.str b)=l/\l.length=(tyT b).length+7/\l.getD 0 0=115/\l.take 7=[115,116,114,101,97,109,32]/\l.drop 7=tyT b:=⟨_,rfl,by simp[tyT,Xg],rfl,rfl,rfl⟩;rw[e]at hl|-;have f1:(l == [105,110,116])=false:=by rw[beq_eq_false_iff_ne];rintro rfl;cases h2
  have f2:(l == [98,111,111,108])=false:=by rw[beq_eq_false_iff_ne];rintro rfl;cases h2
  have d1:((2:Int)<(l.length:Int))=True:=J4;have d2:((7:Int)<(l.length:Int))=True:=J4;refine fcS c104_ok λN=>?_
  simp only[c104,go_sem,f1,f2,d1,d2,h2,h3,beq_self_eq_true,show ((((115:UInt8).toNat:Nat):Int) == 91)=false from rfl]
  repeat refine aN ?_
  refine JH [0,0,0,0,0,0,0,0] Jm vM ?_;simp only[go_sem,h4,GI]
  repeat refine aN ?_
  refine Jdx (.inl rfl) hI ?_;simp only[go_sem,spW]
  try rfl
theorem JeN:∀(a:Option TyX),(opT a).length<=100000->∃c:Bool,Fn Ga 104 [S (opT a)] (.tup [S (spW a).1,S (spW a).2,.bool c])
 |some a,h=>JeM a h
 |none,_=>by
  refine⟨false,?_⟩;refine fcS c104_ok λN=>?_
  simp only[c104,go_sem,opT,spW,Gh,show (([]:LA) == [105,110,116])=false from rfl,show (([]:LA) == [98,111,111,108])=false from rfl,show ((2:Int)<((0:Nat):Int))=False from eq_false vk,show ((7:Int)<((0:Nat):Int))=False from eq_false vk]
section
variable{of:Lx}
theorem KQ{ρ:LB}{Y:Lv}(h:(ρ.map λid=>Xn (0::1::2::3::ρ) ((hpR t of R X).getD id .dead))=Y):KE (0::1::2::3::ρ) (hpR t of R X)=hpR t of R Y:=by rw[ren_hpR,h]
def RS.give (R:RS)(i:Nat)(b:Bool)(l:TL):RS:=if (b && Qg l)=true then { R with got:=R.got.set i l } else R.fail i
theorem YN(hi:i<t.nodes.length)(AO:R.got.length=t.nodes.length)(hn:l.length<=1000)(hl:∀a∈l,(tyT a).length<=100000):RMe Ga 105 [.int .i64 (i:Int),.bool b,txV l] t of R (R.give i b l) (.tup []):=by
 have DJ:(txz l).length=l.length:=KL;have Em:(gz R.got).length=t.nodes.length:=by rw[QB,AO]
 refine QH (vfS c105_ok λN=>?_);simp only[c105,go_sem];refine Js (I:=λj:Nat=>j<=l.length) (inv:=λj=>mkT 36 [(0,.ptr 0 0 0),(1,.int .i64 (i:Int)),(2,.bool (b && Qg (l.take j))),(3,txV l),(8,.int .i64 (j:Int))]) (hp:=λ_=>hpR t of R []) (μ:=λj=>l.length-j) 0 [0,1,2,3] om rfl ?_ ?_ ?_
 ·simp only[J2,Gb,Gc,ren,Jl,Jc (JI l),txV];refine Jt ?_;simp[Km,Kw,Qg,txV]
 ·exact KQ (X:=[]) rfl
 ·intro j hj;have CP:(b && Qg (l.take j))=false\/j=l.length->(b && Qg (l.take j))=(b && Qg l):=λh=>by
   rcases h with h|h
   ·rw[h]
    cases b with
    |false=>rfl
    |true=>
     rw[Gu]at h|-
     cases hf:Qg l with
     |false=>rfl
     |true=>
      have:Qg (l.take j)=true:=by unfold Qg at hf|-;rw[GA]at hf|-;exact λx hx=>hf x (List.mem_of_mem_take hx)
      rw[this]at h;cases h
   ·rw[h,GI]
  by_cases hc:j<l.length/\(b && Qg (l.take j))=true
  ·obtain⟨h1,h2⟩:=hc;have d1:=dtT j l.length;have hm:l.getD j .int∈l:=by rw[Gq,Gs h1];exact GD h1
   have hp:=refParts4 (l.getD j .int) (hl _ hm);have hx:=X3 h1;have e:(b && Qg (l.take (j+1)))=decide ((tyP (l.getD j .int):Int)<=20):=by rw[Jg5 h1];unfold Qg at h2|-;rw[Hf,<-H6,h2,Gu];simp only[GZ,G5,G6];exact decide_eq_decide.2 om
   simp only[go_sem,DJ,d1,h2,txV];simp only[go_sem,DJ,hx]
   repeat refine aN ?_
   refine JU hp ?_;simp only[go_sem]
   repeat refine aN ?_
   refine⟨j+1,[0,1,2,3],om,om,rfl,KQ (X:=[]) rfl,?_⟩;rw[e];simp only[J2,Gb,Gc,ren,Jl,Jc (JI l)];refine Jt ?_;simp[Km,Kw,txV]
  ·have h2:=CP (by
    rcases GV j l.length with h|h
    ·exact .inl (by rw[GJ];exact λe=>hc ⟨h,e⟩)
    ·exact .inr om)
   have Ar:(gz R.got).set i [txV l]=gz (R.got.set i l):=gz_set;by_cases Ab:j<l.length
   ·have d1:=dtT j l.length;have h4:(b && Qg (l.take j))=false:=by rw[GJ];exact λe=>hc ⟨Ab,e⟩
    rw[h4]at h2|-;simp only[go_sem,DJ,d1,txV,Gw];refine Kon (X:=[]) Jcu ?_;simp only[go_sem];have e:R.give i b l=R.fail i:=by unfold RS.give;rw[<-h2,if_neg vk]
    rw[e];exact .done (wk.refl _)
   ·have d1:=dfF j l.length;rw[h2]
    cases hb:(b && Qg l) with
    |false=>
     have e:R.give i b l=R.fail i:=by unfold RS.give;rw[hb,if_neg vk]
     rw[e];simp only[go_sem,DJ,d1,txV,Gw];refine Kon (X:=[]) Jcu ?_;simp only[go_sem];exact .done (wk.refl _)
    |true=>
     have e:R.give i b l = { R with got:=R.got.set i l }:=by unfold RS.give;rw[hb,if_pos rfl]
     rw[e];simp only[txV]at Ar;simp only[go_sem,DJ,d1,txV,Gv,hpR,Qc,Em,KV (l:=R.got) (i:=i) om,GN,Gf,Gi,Gh,Ar,Gd,Gg]
     repeat refine aN ?_
     exact .done (wk.refl _)
end
def allB (t:Tr)(got:List TL)(i:Nat)(s:LA):Bool:=(Gx (nd t i).kids.length).all λj=>opT (Kz (Jr got (Ju t i j))) == s
theorem allB_of{s:LA}{j:Nat}(hj:j<(nd t i).kids.length)(h:(opT (Kz (Jr got (Ju t i j))) == s)=false):allB t got i s=false:=by
 unfold allB;rw[GJ];intro e;rw[GA]at e;rw[e j (Gz.2 hj)]at h
 cases h
section
variable(g:GoodT t o)(ht:t.Fit){of:Lx}
include g ht
theorem rmAll{s:LA}(hi:i<t.nodes.length)(hl:R.got.length=t.nodes.length):RMe Ga 107 [.int .i64 (i:Int),S s] t of R R (.bool (allB t R.got i s)):=by
 have Ag:=g.many;have hg:=JX hi;have Ap:(iz (nd t i).kids).length=(nd t i).kids.length:=Jf;have Bj:=(JbM ht hi).kidn;refine QH (vfS c107_ok λN=>?_);simp only[c107,go_sem,hpR,Qc,Ja,hg,Nd.cv]
 repeat refine aN ?_
 refine Js (I:=λj:Nat=>j<=(nd t i).kids.length/\∀j',j' < j->(opT (Kz (Jr R.got (Ju t i j'))) == s)=true) (inv:=λj=>mkT 32 [(0,.ptr 0 0 0),(2,S s),(7,.rslc 1 (iz (nd t i).kids) none),(8,.int .i64 (j:Int))]) (hp:=λ_=>hpR t of R []) (μ:=λj=>(nd t i).kids.length-j) 0 [0,1,2,3] ⟨om,λj h=>om⟩ rfl ?_ ?_ ?_
 ·simp only[J2,Gb,Gc,ren,Jl];refine Jt ?_;simp[Km,Kw]
 ·exact KQ (X:=[]) rfl
 ·rintro j ⟨hj,hq⟩;by_cases Ab:j<(nd t i).kids.length
  ·have d1:=dtT j (nd t i).kids.length;have MR:(iz (nd t i).kids).getD j []=[.int .i64 ((Ju t i j:Nat):Int)]:=by rw[JF Ab,JC g hi Ab]
   have PL:Ju t i j<t.nodes.length:=by have:=(Jz g hi Ab).2.1;omega
   have hO:=rmOne (of:=of) PL hl;simp only[go_sem,Ap,d1,MR]
   repeat refine aN ?_
   refine Kon (X:=[]) hO ?_
   cases hb:(opT (Kz (Jr R.got (Ju t i j))) == s) with
   |true=>
    simp only[go_sem,hb,Gv,Gw];refine⟨Jg,j+1,[0,1,2,3],⟨om,λj' h=>?_⟩,om,rfl,KQ (X:=[]) rfl,?_⟩
    ·rcases GV j' j with h1|h1
     ·exact hq j' h1
     ·rw[show j'=j by omega];exact hb
    ·simp only[J2,Gb,Gc,ren,Jl];refine Jt ?_;simp[Km,Kw]
   |false=>rw[allB_of Ab hb];simp only[go_sem,hb,Gv,Gw];exact .done (wk.refl _)
  ·have d1:=dfF j (nd t i).kids.length;have e:allB t R.got i s=true:=by unfold allB;rw[GA];exact λx hx=>hq x (by have:=Gz.1 hx;omega)
   rw[e];simp only[go_sem,Ap,d1];exact .done (wk.refl _)
end
section
variable{of:Lx}
theorem rmList {ks:Lx}(hl:R.got.length=t.nodes.length)(hk:∀k∈ks,0<=k/\k<t.nodes.length)(hn:ks.length<=1000)(Bb:∀j,(Jr R.got j).length<=30)(hf:∀j,Qg (Jr R.got j)=true):∃m:TL,(∀l,gvn R.got ks=some l->m=l)/\(m.length<=1000/\∀a∈m,(tyT a).length<=100000)/\RMe Ga 113 [.rslc 1 (iz ks) none] t of R R (.tup [txV m,.bool (gvn R.got ks).isSome]):=by
 have Ae:(iz ks).length=ks.length:=Jf;have AO:(gz R.got).length=t.nodes.length:=by rw[QB,hl]
 have Av:∀j,j<ks.length->∃i:Nat,ks.getD j 0=i/\i<t.nodes.length:=λj hj=>by have hm:=hk (ks.getD j 0) (by rw[Gq,Gs hj];exact GD hj);exact⟨(ks.getD j 0).toNat,om,om⟩
 by_cases h1:ks.length=1
 ·obtain⟨k,rfl⟩:=Hq.1 h1;obtain⟨i,rfl⟩:∃i:Nat,k=i:=⟨k.toNat,by have:=(hk k sM).1;omega⟩;have hi:i<t.nodes.length:=by have:=(hk (i:Int) sM).2;omega
  have hg:=KV (l:=R.got) (i:=i) om;refine⟨Jr R.got i,λl h=>by rw[gvn_one]at h;cases h;rfl,⟨by have:=Bb i;omega,λa ha=>by have:=Yx (hf i) ha;omega⟩,?_⟩;refine QH (vfS c113_ok λN=>?_);have d1:(((0+1:Nat):Int) == 1)=true:=rfl;simp only[c113,go_sem,hpR,Qc,Kv,Xp,Gi,Gh,d1];refine JQ Jm vM ?_;simp only[go_sem,hg,AO,Gi,Gh]
  repeat refine anO ?_
  exact .done (wk.refl _)
 ·have hm:=gvn_many (got:=R.got) h1;have d1:((ks.length:Int) == 1)=false:=by simpa using (by omega:¬(ks.length:Int)=1)
  obtain⟨j0,dA,Bi,CP⟩:∃j0,j0<=ks.length/\(∀j,j<j0->(Jr R.got (ks.getD j 0).toNat).length=1)/\(j0<ks.length->(Jr R.got (ks.getD j0 0).toNat).length≠1):=by
   have:∀n,n<=ks.length->(∀j,j<n->(Jr R.got (ks.getD j 0).toNat).length=1)\/∃j0,j0<n/\(∀j,j<j0->(Jr R.got (ks.getD j 0).toNat).length=1)/\(Jr R.got (ks.getD j0 0).toNat).length≠1:=by
    intro n
    induction n with
    |zero=>exact λ_=>.inl λj h=>om
    |succ n ih=>
     intro h;rcases ih om with h2|⟨j0,h2,h3,h4⟩
     ·by_cases h5:(Jr R.got (ks.getD n 0).toNat).length=1
      ·refine .inl λj hj=>?_
       rcases GV j n with h6|h6
       ·exact h2 j h6
       ·rw[show j=n by omega];exact h5
      ·exact .inr ⟨n,om,h2,h5⟩
     ·exact .inr ⟨j0,om,h3,h4⟩
   rcases this ks.length (GK _) with h|⟨j0,h2,h3,h4⟩
   ·exact⟨ks.length,GK _,h,λh=>om⟩
   ·exact⟨j0,om,h3,λ_=>h4⟩
  have hb:(gvn R.got ks).isSome=decide (j0=ks.length)/\∀l,gvn R.got ks=some l->hdT R.got (ks.take j0)=l:=by
   rw[hm];by_cases e:j0=ks.length
   ·have Aj:ks.all (λk=>(Jr R.got k.toNat).length == 1)=true:=by rw[GA];intro x hx;obtain⟨j,hj,rfl⟩:=Ht hx;have:=Bi j om;rw[Gq,Gs hj]at this;simpa using this
    rw[if_pos Aj,e,GI];exact⟨sM,λl h=>by cases h;rfl⟩
   ·have Aj:¬ks.all (λk=>(Jr R.got k.toNat).length == 1)=true:=λh=>by have h2:=GA.1 h (ks.getD j0 0) (by rw[Gq,Gs (show j0<ks.length by omega)];exact GD _);exact CP om (by simpa using h2)
    rw[if_neg Aj];exact⟨by simp[e],λl h=>by cases h⟩
  refine⟨hdT R.got (ks.take j0),hb.2,⟨by unfold hdT;rw[He,GX];omega,λa ha=>?_⟩,?_⟩
  ·unfold hdT at ha;obtain⟨k,_,rfl⟩:=Hl.1 ha
   cases hg:Jr R.got k.toNat with
   |nil=>decide
   |cons x l=>have:=Yx (hf k.toNat) (a:=x) (by rw[hg];exact List.mem_cons_self);simp only[HZ];omega
  rw[hb.1];clear hb hm;refine QH (vfS c113_ok λN=>?_);simp only[c113,go_sem,hpR,Qc,Ae,d1];have AU:∀j,j<=ks.length->(txz (hdT R.got (ks.take j))).length=j:=λj hj=>by rw[KL];simp[hdT];omega
  have Az:=λ(ρ:LB) (j:Nat)=>Jc (ρ:=ρ) (JI (hdT R.got (ks.take j)))
  refine Js (I:=λj:Nat=>j<=j0) (inv:=λj=>mkT 56 [(0,.ptr 0 0 0),(1,.rslc 1 (iz ks) none),(6,.slc 4 0 j (Jej (txz (hdT R.got (ks.take j))))),(7,.int .i64 (j:Int))]) (hp:=λj=>hpR t of R [.arr 1 (txz (hdT R.got (ks.take j)))]) (μ:=λj=>j0-j) 0 [0,1,2,3,4] om rfl ?_ ?_ ?_
  ·simp only[J2,Gb,Gc,ren,Jl];refine Jt ?_;simp[Km,Kw,hdT,txz,Jej]
  ·exact KQ (X:=[.arr 1 []]) rfl
  ·intro j hj;have Fa:=AU j om;have Cg:(txz (hdT R.got (ks.take j))).take j=txz (hdT R.got (ks.take j)):=GH om;by_cases Ab:j<ks.length
   ·have d2:=dtT j ks.length;obtain⟨i,e1,e2⟩:=Av j Ab;have Bp:=JF Ab;rw[e1]at Bp;have hg:=KV (l:=R.got) (i:=i) om;have DJ:(txz (Jr R.got i)).length=(Jr R.got i).length:=KL;by_cases iE:j<j0
    ·have Bl:=Bi j iE;rw[e1,Gm]at Bl;obtain⟨a,ha⟩:=Hq.1 Bl;have AJ:=hdT_snoc (got:=R.got) Ab;rw[e1,Gm,ha]at AJ;simp only[HZ]at AJ;have d3:(((0+1:Nat):Int) != 1)=false:=rfl;have D8:=AU (j+1) om;rw[AJ,Qe]at D8;have z1:(txz [a]).length=1:=rfl;have z2:(txz [a]).getD 0 []=[S (tyT a)]:=rfl;have d4:(((1:Nat):Int) != 1)=false:=rfl;simp only[go_sem,Ae,d2];refine JQ Jm vM ?_;simp only[go_sem,hpR,Qc,Ae,Bp,AO,hg,ha,txV,z1,d4]
     repeat refine anO ?_
     refine JH [0,0,0,0,1,0,0,0,0,1,1,0,0,0,2,0] Jm vM ?_;simp only[go_sem,Ae,Bp,AO,hg,ha,txV,z1,z2]
     repeat refine anO ?_
     refine YI [[S (tyT a)]] (.inl rfl) rfl rfl rfl rfl ?_;simp only[go_sem,JA,Fa,Gi,Gh]
     repeat refine anO ?_
     refine⟨Jg,j+1,[0,1,2,3,5],om,om,rfl,?_,?_⟩
     ·rw[AJ,Qe];exact KQ (X:=[.arr 1 (txz (hdT R.got (ks.take j))),.arr 1 (txz (hdT R.got (ks.take j))++[[S (tyT a)]])]) (by have:(txz (hdT R.got (ks.take j))++[[S (tyT a)]]).map (JG [0,1,2,3,5])=_:=Jc (by rw[<-Qe];exact JI _);simp only[Gb,Gc,hpR,List.getD_cons_succ,Gn,Jo,this])
     ·rw[AJ,Qe,Yz];simp only[J2,Gb,Gc,ren,Jl];refine Jt ?_;simp[Km,Kw]
    ·obtain rfl:j=j0:=om;have Ai:=CP Ab;rw[e1,Gm]at Ai;have d3:(((Jr R.got i).length:Int) != 1)=true:=by simp;omega
     have hb:decide (j=ks.length)=false:=decide_eq_false om;rw[hb];simp only[go_sem,Ae,d2];refine JQ Jm vM ?_;simp only[go_sem,hpR,Qc,Ae,Bp,AO,hg,txV,DJ,d3]
     repeat refine anO ?_
     refine .oneR 0 rfl (JI _) ?_ ?_
     ·simp[frz,JK,CV.closed,Jk,Fa]
     ·simp[frz,JK,txV,Fa,Cg];exact wk.refl _
   ·have d2:=dfF j ks.length;obtain rfl:j=j0:=om;have hb:decide (j=ks.length)=true:=decide_eq_true om;rw[hb];simp only[go_sem,Ae,d2];refine .oneR 0 rfl (JI _) ?_ ?_
    ·simp[frz,JK,CV.closed,Jk,Fa]
    ·simp[frz,JK,txV,Fa,Cg];exact wk.refl _
end
theorem getT{f:Nat->α}{j:Nat}{d:α}(h:j<n):((Gx n).map f).getD j d=f j:=by rw[Gq,Hy,Hu h];rfl
section
variable(g:GoodT t o)(ht:t.Fit)
include g ht
theorem Jd6 {d:Nat}(hd:d<t.nodes.length)(hk:(nd t d).k=65):Fn Ga 24 [t.cv,.int .i64 (d:Int)] (.tup [txV (Q3 t d),txV (XH t d)]):=by
 have Ag:=g.many;have hg:=JX hd;have Bj:=(JbM ht hd).kidn;obtain⟨a,a1,a2,a3,a4,a5⟩:=Yc g hd hk;change (nd t d).n=a at a1;change a<(nd t d).kids.length at a2;have Ap:(iz (nd t d).kids).length=(nd t d).kids.length:=Jf;have UH:(Q3 t d).length=a:=by unfold Q3;simp[a1]
 have SQ:(XH t d).length=(nd t d).kids.length-1-a:=by unfold XH;simp[a1]
 have bC:∀j,j<a->∃c:Nat,(nd t d).kids.getD j 0=c/\c<t.nodes.length/\∃e:Nat,(nd t c).kids=[(e:Int)]/\Fn Ga 47 [t.cv,.int .i64 (e:Int)] (S (tyT ((Q3 t d).getD j .int))):=λj hj=>by
  have h1:=Jz g hd (i:=j) om;have Cr:(nd t (Ju t d j)).k=64:=by rw[h1.2.2];exact a3 j hj
  obtain⟨q1,q2,q3,q4⟩:=Yp g (i:=Ju t d j) om (.inr (.inl ⟨om,om⟩));have hl:=Xu g (i:=Ju t d j) om (.inr (.inr (.inr ⟨om,om⟩)));have hs:(Q3 t d).getD j .int=tyN t (Ju t (Ju t d j) 0):=by unfold Q3;rw[a1,Gm,getT hj]
  have hc:=JC g hd (j:=j) om;exact⟨Ju t d j,hc,om,Ju t (Ju t d j) 0,Jdr g om hl,by rw[hs];exact YO g ht _ om q3 q4⟩
 have bB:∀j,j<(nd t d).kids.length-1-a->∃c:Nat,(nd t d).kids.getD (a+j) 0=c/\c<t.nodes.length/\Fn Ga 47 [t.cv,.int .i64 (c:Int)] (S (tyT ((XH t d).getD j .int))):=λj hj=>by
  have h1:=Jz g hd (i:=a+j) om;have h6:=a4 (a+j) om (by change a+j+1<(nd t d).kids.length;omega);have e:(nd t (Ju t d (a+j))).k=Jw t.nodes ((t.nodes.getD d default).kids.getD (a+j) 0):=h1.2.2;have hs:(XH t d).getD j .int=tyN t (Ju t d (a+j)):=by unfold XH;rw[a1,Gm,getT hj]
  have hc:=JC g hd (j:=a+j) om;exact⟨_,hc,om,by rw[hs];exact YO g ht _ om om om⟩
 have Pz:(((nd t d).kids.length:Int)-1)=(((nd t d).kids.length-1:Nat):Int):=om;generalize Q3 t d=sp at *;generalize XH t d=sr at *;refine Jgv (vfS c24_ok λN=>?_) rfl (by simp[CV.closed,Jk,txV]);simp only[c24,go_sem,Tr.cv,Tr.row,Ja,hg,Nd.cv]
 repeat refine aN ?_
 refine Je (id:=0) (z:=2) (els:=[t.row]) rfl rfl ?_;simp only[go_sem,Tr.row,Jv,frz,JK,KC,Kn,Gb,Gc,Gn,Gf,GU,if_true,if_false,Gd,Gg];refine Je (id:=3) (z:=5) (els:=[[.int .u8 ((nd t d).k:Int),S (nd t d).text,.int .i64 (nd t d).n,.rslc 1 (iz (nd t d).kids) none,.int .i64 (nd t d).pl]]) rfl rfl ?_;simp only[go_sem,Tr.row,Jv,frz,JK,KC,Kn,Gb,Gc,Gn,Gf,GU,if_true,if_false,Gd,Gg];have jm:=λj=>JI (sp.take j)
 have jk:=λj=>JI (sr.take j)
 refine Js (I:=λj:Nat=>j<=(nd t d).kids.length-1) (inv:=λj=>mkT 58 [(2,.rptr t.row),(6,.rptr [.int .u8 ((nd t d).k:Int),S (nd t d).text,.int .i64 (nd t d).n,.rslc 1 (iz (nd t d).kids) none,.int .i64 (nd t d).pl]),(7,.slc 0 0 (txz (sp.take j)).length (Jej (txz (sp.take j)))),(8,.slc 1 0 (txz (sr.take (j-a))).length (Jej (txz (sr.take (j-a))))),(9,.int .i64 (j:Int))]) (hp:=λj=>[.arr 1 (txz (sp.take j)),.arr 1 (txz (sr.take (j-a)))]) (μ:=λj=>(nd t d).kids.length-1-j) 0 [1,2] om rfl ?_ ?_ ?_
 ·simp only[J2,Gb,Gc,ren,Jl];refine Jt ?_;simp[Km,Kw,Tr.row,txz,Jej]
 ·simp[KE,Xn,txz]
 ·intro j hj;by_cases Ab:j<(nd t d).kids.length-1
  ·have d1:((j:Int)<(((nd t d).kids.length-1:Nat):Int))=True:=J4;by_cases O0:j<a
   ·have d2:=dtT j a;obtain⟨c,c1,c2,e,c3,c4⟩:=bC j O0;have MR:(iz (nd t d).kids).getD j []=[.int .i64 (c:Int)]:=by rw[JF om,c1]
    have D9:=JX c2;have iN:iz (nd t c).kids=[[.int .i64 (e:Int)]]:=by rw[c3];rfl
    have AJ:sp.take (j+1)=sp.take j++[sp.getD j .int]:=Jg5 om;have Cz:j+1-a=j-a:=om;have A8:(txz (sp.take j)).length=j:=by rw[KL,GX];omega
    simp only[go_sem,Ap,Pz,d1,a1,d2]
    repeat refine aN ?_
    refine JH [0,0,0,0,0,0,0,0,0,0,0,0,0,0,0,0,2,0] Jm vM ?_;simp only[go_sem,Tr.row,Ap,MR,Ja,D9,Nd.cv,iN,Gi,Gh,Gn]
    repeat refine aN ?_
    refine Jdx (.inl rfl) c4 ?_;simp only[go_sem];refine YI [[S (tyT (sp.getD j .int))]] (.inl rfl) rfl rfl rfl rfl ?_;simp only[go_sem,JA,A8,Gi,Gh]
    repeat refine aN ?_
    refine⟨j+1,[2,1],om,om,rfl,?_,?_⟩
    ·rw[AJ,Qe,Cz];have e1:(txz (sp.take j)++[[S (tyT (sp.getD j .int))]]).map (JG [2,1])=_:=Jc (by rw[<-Qe];exact JI _);simp only[KE,Gb,Gc,go_sem,Jo,e1,Jc (jk (j-a))]
    ·rw[AJ,Qe,Cz,Yz];simp only[J2,Gb,Gc,ren,Jl];refine Jt ?_;simp[Km,Kw,Tr.row,A8]
   ·have d2:=dfF j a;obtain⟨c,c1,c2,c4⟩:=bB (j-a) om;rw[show a+(j-a)=j by omega]at c1;have MR:(iz (nd t d).kids).getD j []=[.int .i64 (c:Int)]:=by rw[JF om,c1]
    have AJ:sr.take (j+1-a)=sr.take (j-a)++[sr.getD (j-a) .int]:=by rw[show j+1-a=(j-a)+1 by omega];exact Jg5 om
    have Dr:sp.take (j+1)=sp.take j:=by rw[GH om,GH om]
    have A8:(txz (sr.take (j-a))).length=j-a:=by rw[KL,GX];omega
    simp only[go_sem,Ap,Pz,d1,a1,d2]
    repeat refine aN ?_
    refine JH [0,0,0,0,0,0,0,0,0,2,0] Jm vM ?_;simp only[go_sem,Tr.row,Ap,MR]
    repeat refine aN ?_
    refine Jdx (.inl rfl) c4 ?_;simp only[go_sem];refine YI [[S (tyT (sr.getD (j-a) .int))]] (.inl rfl) rfl rfl rfl rfl ?_;simp only[go_sem,JA,A8,Gi,Gh]
    repeat refine aN ?_
    refine⟨j+1,[0,2],om,om,rfl,?_,?_⟩
    ·rw[AJ,Qe,Dr];have e1:(txz (sr.take (j-a))++[[S (tyT (sr.getD (j-a) .int))]]).map (JG [0,2])=_:=Jc (by rw[<-Qe];exact JI _);simp only[KE,Gb,Gc,go_sem,Jo,e1,Jc (jm j)]
    ·rw[AJ,Qe,Dr,Yz];simp only[J2,Gb,Gc,ren,Jl];refine Jt ?_;simp[Km,Kw,Tr.row,A8]
  ·have d1:((j:Int)<(((nd t d).kids.length-1:Nat):Int))=False:=JS;have ep:sp.take j=sp:=GH om;have er:sr.take (j-a)=sr:=GH om;rw[ep,er];simp only[go_sem,Ap,Pz,d1]
   repeat refine aN ?_
   have t1:∀l:TL,(txz l).take (txz l).length=txz l:=λl=>GI
   refine .frz 0 1 (txz sp) rfl (JI _) (.frz 1 1 (txz sr) ?_ (JI _) (.drop ?_ ?_))
   ·simp[KC,Kn,JJ (JI _)]
   ·simp[frz,JK,CV.closed,Jk]
   ·simp[frz,JK,txV];exact wk.refl _
end
theorem JaI{a:TyX}:(opT (Kz l) == tyT a)=(l == [a]):=by
 rw[GR,beq_iff_eq,beq_iff_eq]
 constructor
 ·intro h;exact XM.1 (opT_inj (a:=Kz l) (b:=some a) h)
 ·intro h;rw[XM.2 h];rfl
def RS.ans (R:RS)(i:Nat):Option TL->RS
 |none=>R.fail i
 |some l=>R.give i true l
theorem Yl:R.ans i (if b=true then some l else none)=R.give i b l:=by
 cases b with
 |false=>rw[if_neg vk];unfold RS.ans RS.give;rw[GG,if_neg vk]
 |true=>rw[if_pos rfl];rfl
section
variable{of:Lx}
theorem rmGiveF(hc:Jq els=true)(hn:els.length<=1000):RMe Ga 105 [.int .i64 (i:Int),.bool false,.rslc 1 els none] t of R (R.fail i) (.tup []):=by
 refine QH (vfS c105_ok λN=>?_);simp only[c105,go_sem];refine Js (I:=λ_:Nat=>True) (inv:=λ_=>mkT 36 [(0,.ptr 0 0 0),(1,.int .i64 (i:Int)),(2,.bool false),(3,.rslc 1 els none),(8,.int .i64 0)]) (hp:=λ_=>hpR t of R []) (μ:=λj=>j) 0 [0,1,2,3] trivial rfl ?_ ?_ ?_
 ·simp only[J2,Gb,Gc,ren,Jl,Jc hc];refine Jt ?_;simp[Km,Kw]
 ·exact KQ (X:=[]) rfl
 ·intro j _;by_cases h0:(0:Int)<(els.length:Int)
  ·have d1:((0:Int)<(els.length:Int))=True:=eq_true h0;simp only[go_sem,d1,Gw];refine Kon (X:=[]) Jcu ?_;simp only[go_sem];exact .done (wk.refl _)
  ·have d1:((0:Int)<(els.length:Int))=False:=eq_false h0;simp only[go_sem,d1,Gw];refine Kon (X:=[]) Jcu ?_;simp only[go_sem];exact .done (wk.refl _)
theorem QJ(hi:i<t.nodes.length)(AO:R.got.length=t.nodes.length)(hn:els.length<=1000)(hc:Jq els=true)(he:b=true->els=txz l)(hl:∀a∈l,(tyT a).length<=100000):RMe Ga 105 [.int .i64 (i:Int),.bool b,.rslc 1 els none] t of R (R.give i b l) (.tup []):=by
 cases b with
 |true=>obtain rfl:=he rfl;exact YN hi AO (by rw[KL]at hn;exact hn) hl
 |false=>
  have e:R.give i false l=R.fail i:=by unfold RS.give;rw[GG,if_neg vk]
  rw[e];exact rmGiveF hc hn
end
section
variable(g:GoodT t o)(ht:t.Fit){of:Lx}
include g ht
theorem rmArray(hi:i<t.nodes.length)(hk:(nd t i).k=29)(hl:R.got.length=t.nodes.length)(hf:∀j,Qg (Jr R.got j)=true):RMe Ga 108 [.int .i64 (i:Int),.agg (nd t i).cv] t of R (R.ans i (Qd t m R.got i)) (.tup []):=by
 have Ag:=g.many;have Bj:=(JbM ht hi).kidn;have h2:=arr_two (K:=⟨t,[],[],[]⟩) g hi hk;change 2<=(nd t i).kids.length at h2;have Ae:(iz (nd t i).kids).length=(nd t i).kids.length:=Jf;have Er:∀j,1<=j->j<(nd t i).kids.length->∃c e:Nat,(iz (nd t i).kids).getD j []=[.int .i64 (c:Int)]/\c<t.nodes.length/\0<(nd t c).kids.length/\Ji t c=e/\e<t.nodes.length/\Jbi t R.got i j=Jr R.got e:=λj h1 hj=>by have hm:=Jz g hi (i:=j) hj;have hp:=JeU g hi hk h1 hj;obtain⟨q1,q2,q3⟩:=JeT g (u:=Ju t i j) om hp;exact⟨_,_,by rw[JF hj,JC g hi hj],om,q1,rfl,om,by unfold Jbi;rw[if_pos hj]⟩
 have D7:KK t R.got i 0=Jr R.got (Ju t i 0):=by rw[XZ g hi om (JC g hi om),Gm]
 have bV:Ju t i 0<t.nodes.length:=by have:=Jz g hi (i:=0) om;omega
 have jV:(iz (nd t i).kids).getD 0 []=[.int .i64 ((Ju t i 0:Nat):Int)]:=by rw[JF om,JC g hi om]
 obtain⟨c1,e1,p1,p2,p3,p4,p5,p6⟩:=Er 1 om om;have eu:=Jbe (hf e1);generalize hs:Kz (Jr R.got e1)=s at *;have hr:Qd t m R.got i=if ((Jr R.got (Ju t i 0) == [.int]) && (s.isSome && Jh6 t R.got i (s.getD .int) ((nd t i).kids.length-1)))=true then some [.arr (s.getD .int)] else none:=by
  rw[JW,hk,Jd4,p6,D7,hs];change (if s.isSome=true/\Jh6 t R.got i (s.getD .int) ((nd t i).kids.length-1)=true/\Jr R.got (Ju t i 0)=[.int] then _ else _)=_
  cases s.isSome <;> cases Jh6 t R.got i (s.getD .int) ((nd t i).kids.length-1) <;> by_cases h:Jr R.got (Ju t i 0)=[TyX.int] <;> simp[h]
 rw[hr,Yl];clear hr;generalize cB:(λj=>(Jr R.got (Ju t i 0) == [TyX.int]) && (s.isSome && Jh6 t R.got i (s.getD .int) j))=rB;have F4:∀j,rB j=((Jr R.got (Ju t i 0) == [TyX.int]) && (s.isSome && Jh6 t R.got i (s.getD .int) j)):=λj=>by rw[<-cB]
 rw[<-F4];clear cB;have dS:Jh6 t R.got i (s.getD .int) 0=true:=rfl;have bO:rB 1=((Jr R.got (Ju t i 0) == [TyX.int]) && !(opT s == [])):=by
  rw[F4,JcZ,dS,p6]
  cases s with
  |none=>rfl
  |some a=>
   have e1:(Jr R.got e1 == [a])=true:=by rw[beq_iff_eq];exact XM.1 hs
   have e2:(opT (some a) == [])=false:=beq_eq_false_iff_ne.2 Jes;simp only[Option.isSome_some,G9,e1,e2,Gu,Gw]
 have jO:∀j e,rB j=true->Jbi t R.got i (j+1)=Jr R.got e->rB (j+1)=(opT (Kz (Jr R.got e)) == opT s):=λj e h1 h2=>by rw[F4]at h1|-;rw[JcZ,h2];simp only[GQ]at h1;obtain⟨q1,q2,q3⟩:=h1;rw[q1,q2,q3,Gu,Gu,Gu];obtain⟨a,rfl⟩:=Hm.1 q2;exact JaI.symm
 have jP:∀j,rB j=false->rB (j+1)=false:=λj h=>by
  rw[F4]at h|-;rw[JcZ]
  revert h
  cases (Jr R.got (Ju t i 0) == [TyX.int]) <;> cases s.isSome <;> simp
  intro h;simp[h]
 have jN:∀j,rB j=true->∃a,s=some a:=λj h=>by rw[F4]at h;simp only[GQ]at h;exact Hm.1 h.2.1
 clear F4 dS;have Fx:(opT (Kz (Jr R.got (Ju t i 0))) == [105,110,116])=(Jr R.got (Ju t i 0) == [TyX.int]):=JaI (a:=.int);generalize hG:R.give i (rB ((nd t i).kids.length-1)) [TyX.arr (s.getD .int)]=RG;have Io:=Yn g ht p2 p3;rw[p4]at Io;have dW:=rmOne (of:=of) p5 hl;rw[hs]at dW;have jq:=rmOne (of:=of) bV hl;refine QH (vfS c108_ok λN=>?_);simp only[c108,go_sem,hpR,Qc,Nd.cv];refine J5 (t:=t) (of:=of) (R:=R) (X:=[.arr 5 [(nd t i).cv]]) 0 rfl rfl rfl ?_;simp only[go_sem,Jv,frz,JK,Kn,Gb,Gc,Gd,hpR,Qc,show ¬(0:Nat)=0+4 by decide,if_false,if_true,Nd.cv,Gn,Gf,Gj];refine JH [0,0,0,0,4,0,0,0,0,0,4,0] Jm vM ?_;simp only[go_sem,Ae,p1]
 repeat refine aN ?_
 refine Jdx (.inl rfl) Io ?_;simp only[go_sem];refine vy_rm (R:=R) (X:=[.dead]) dW (.inl rfl) rfl rfl rfl rfl ?_;simp only[go_sem,Ae,jV]
 repeat refine aN ?_
 refine Kon (X:=[.dead]) jq ?_
 cases h0:(Jr R.got (Ju t i 0) == [TyX.int])
 all_goals
  rw[h0]at bO Fx;simp only[GG,Gu]at bO;simp only[go_sem,Fx];refine Js (I:=λj:Nat=>1<=j/\j<=(nd t i).kids.length-1) (inv:=λj=>mkT 63 [(0,.ptr 0 0 0),(1,.int .i64 (i:Int)),(5,.rptr [.int .u8 ((nd t i).k:Int),S (nd t i).text,.int .i64 (nd t i).n,.rslc 1 (iz (nd t i).kids) none,.int .i64 (nd t i).pl]),(6,S (opT s)),(7,.bool (rB j)),(8,.int .i64 ((j+1:Nat):Int))]) (hp:=λ_=>hpR t of R []) (μ:=λj=>(nd t i).kids.length-1-j) 1 [0,1,2,3] ⟨om,om⟩ rfl ?_ ?_ ?_
  ·simp only[J2,Gb,Gc,ren,Jl,bO];refine Jt ?_;simp[Km,Kw]
  ·exact KQ (X:=[.dead]) rfl
  ·rintro j ⟨Fa,D8⟩;by_cases Ab:j+1<(nd t i).kids.length
   ·have d1:(((j+1:Nat):Int)<((nd t i).kids.length:Int))=True:=J4;obtain⟨c,e,r1,r2,r3,r4,r5,r6⟩:=Er (j+1) om Ab;have Im:=Yn g ht r2 r3;rw[r4]at Im;have jo:=rmOne (of:=of) r5 hl;simp only[go_sem,Ae,d1];refine JH [0,0,0,0,0,0,4,0,0,0,0,0,0,4,0,0,0,0] Jm vM ?_
    cases hb:rB j with
    |false=>simp only[go_sem];refine⟨Jg,j+1,[0,1,2,3],⟨om,om⟩,om,rfl,KQ (X:=[]) rfl,?_⟩;rw[jP j hb];simp only[J2,Gb,Gc,ren,Jl];refine Jt ?_;simp[Km,Kw]
    |true=>
     simp only[go_sem,hpR,Qc,Ae,r1]
     repeat refine aN ?_
     refine Jdx (gok rfl) Im ?_;simp only[go_sem];refine vy_rm (R:=R) (X:=[]) jo (gok rfl) rfl rfl rfl rfl ?_;simp only[go_sem];refine⟨Jg,j+1,[0,1,2,3],⟨om,om⟩,om,rfl,KQ (X:=[]) rfl,?_⟩;rw[jO j e hb r6];simp only[J2,Gb,Gc,ren,Jl];refine Jt ?_;simp[Km,Kw]
   ·have d1:(((j+1:Nat):Int)<((nd t i).kids.length:Int))=False:=JS;obtain rfl:j=(nd t i).kids.length-1:=om;simp only[go_sem,Ae,d1]
    repeat refine aN ?_
    refine J5 (t:=t) (of:=of) (R:=R) (X:=[.arr 1 [[S ([91]++opT s++[93])]]]) 0 rfl rfl rfl ?_;simp only[go_sem,Jv,frz,JK,Gb,Gc,Gd,Gt,Gr,Gf,Gj,if_true];refine Ko (X:=[.dead]) (QJ (l:=[TyX.arr (s.getD .int)]) hi hl sM rfl (λhb=>?_) (λa ha=>?_)) (.inl rfl) rfl rfl rfl rfl ?_
    ·obtain⟨a,rfl⟩:=jN _ hb;rfl
    ·rw[Gp.1 ha]
     cases s with
     |none=>decide
     |some a=>simp only[tyT,G9,opT,Gi,GL,Gh]at eu|-;omega
    ·rw[hG];simp only[go_sem];exact .outR (wk.refl _) rfl
theorem rmCall(hi:i<t.nodes.length)(hk:(nd t i).k=26)(Bd:of.length=t.nodes.length)(CW:of.getD i 0=(m:Int))(hm:m<t.nodes.length)(BX:(nd t m).k=65)(hl:R.got.length=t.nodes.length):RMe Ga 109 [.int .i64 (i:Int),.agg (nd t i).cv] t of R (R.ans i (Qd t m R.got i)) (.tup []):=by
 have Ag:=g.many;have Bj:=(JbM ht hi).kidn;have iB:=(JbM ht hm).kidn;have Ae:(iz (nd t i).kids).length=(nd t i).kids.length:=Jf;have OM:(iz of).length=t.nodes.length:=by rw[Jf,Bd]
 have Z6:(iz of).getD i []=[.int .i64 (m:Int)]:=by rw[JF om,CW]
 have bv:=Jd6 g ht hm BX;have MB:(Q3 t m).length<=30:=by obtain⟨a,a1,a2,_⟩:=Yc g hm BX;change (nd t m).n=a at a1;change a<(nd t m).kids.length at a2;unfold Q3;simp[a1];omega
 have Pv:(XH t m).length<=30:=by unfold XH;simp;omega
 have gG:∀a∈XH t m,(tyT a).length<=100000:=λa ha=>by unfold XH at ha;obtain⟨q,hq,rfl⟩:=Hl.1 ha;have h1:=Jz g hm (i:=(nd t m).n.toNat+q) (by have:=Gz.1 hq;omega);have:=X0 (t:=t) (i:=Ju t m ((nd t m).n.toNat+q)) om;omega
 have j6:∀a∈Q3 t m,(tyT a).length<=100000:=λa ha=>by
  obtain⟨a0,a1,a2,a3,_⟩:=Yc g hm BX;change (nd t m).n=a0 at a1;change a0<(nd t m).kids.length at a2;unfold Q3 at ha;obtain⟨q,hq,rfl⟩:=Hl.1 ha;have hq:=Gz.1 hq;rw[a1,Gm]at hq;have h1:=Jz g hm (i:=q) om;have Cr:(nd t (Ju t m q)).k=64:=by rw[h1.2.2];exact a3 q hq
  obtain⟨q1,q2,q3,q4⟩:=Yp g (i:=Ju t m q) om (.inr (.inl ⟨om,om⟩));have:=X0 (t:=t) (i:=Ju t (Ju t m q) 0) om;omega
 have M8:Qd t m R.got i=if (nd t i).kids.length=(Q3 t m).length/\∀j,j<(nd t i).kids.length->KK t R.got i j=[(Q3 t m).getD j .int] then some (XH t m) else none:=by rw[JW,hk,Jhl]
 rw[M8];clear M8;generalize Q3 t m=sp at *;generalize XH t m=sr at *;have Ck:(txz sp).length=sp.length:=KL;have BC:∀j,j<(nd t i).kids.length->(iz (nd t i).kids).getD j []=[.int .i64 ((Ju t i j:Nat):Int)]/\Ju t i j<t.nodes.length/\KK t R.got i j=Jr R.got (Ju t i j):=λj hj=>by have h1:=(Jz g hi hj).2.1;exact⟨by rw[JF hj,JC g hi hj],om,by rw[XZ g hi hj (JC g hi hj),Gm]⟩
 generalize cz:(λj=>decide (sp.length=(nd t i).kids.length) && (Gx j).all λq=>KK t R.got i q == [sp.getD q .int])=rC;have Pm:∀j,rC j=(decide (sp.length=(nd t i).kids.length) && (Gx j).all λq=>KK t R.got i q == [sp.getD q .int]):=λj=>by rw[<-cz]
 have hr:(if (nd t i).kids.length=sp.length/\∀j,j<(nd t i).kids.length->KK t R.got i j=[sp.getD j .int] then some sr else none)=if rC sp.length=true then some sr else none:=by
  have e:((nd t i).kids.length=sp.length/\∀j,j<(nd t i).kids.length->KK t R.got i j=[sp.getD j .int])↔rC sp.length=true:=by
   rw[Pm,GQ,decide_eq_true_iff,GA]
   constructor
   ·rintro⟨q1,q2⟩;exact⟨q1.symm,λx hx=>by rw[beq_iff_eq];exact q2 x (by have:=Gz.1 hx;omega)⟩
   ·rintro⟨q1,q2⟩;exact⟨q1.symm,λj hj=>by have:=q2 j (Gz.2 om);rwa [beq_iff_eq]at this⟩
  by_cases h:rC sp.length=true
  ·rw[if_pos h,if_pos (e.2 h)]
  ·rw[if_neg h,if_neg (λh2=>h (e.1 h2))]
 rw[hr,Yl];clear hr cz;have jM:rC 0=((sp.length:Int) == ((nd t i).kids.length:Int)):=by rw[Pm,List.range_zero,G5,G6,GR,decide_eq_true_iff,beq_iff_eq];omega
 have jK:∀j,rC j=true->j<sp.length->j<(nd t i).kids.length/\rC (j+1)=(KK t R.got i j == [sp.getD j .int]):=λj h1 h2=>by have h3:=Pm (j+1);rw[List.range_succ,Hf,GZ,G5,G6,<-H6,<-Pm,h1,Gu]at h3;rw[Pm,GQ,decide_eq_true_iff]at h1;exact⟨om,h3⟩
 have jL:∀j,rC j=false->j<=sp.length->rC sp.length=false:=λj h1 h2=>by
  rw[Pm]at h1|-;rw[Bool.and_eq_false_iff]at h1|-;rcases h1 with h1|h1
  ·exact .inl h1
  ·refine .inr ?_;rw[GJ]at h1|-;intro h;apply h1;rw[GA]at h|-;exact λx hx=>h x (Gz.2 (by have:=Gz.1 hx;omega))
 clear Pm;have AA:RMe Ga 105 [.int .i64 (i:Int),.bool (rC sp.length),txV sr] t of R (R.give i (rC sp.length) sr) (.tup []):=YN hi hl om gG;generalize R.give i (rC sp.length) sr=RG at *;refine QH (vfS c109_ok λN=>?_);simp only[c109,go_sem,hpR,Qc,Nd.cv];refine J5 (t:=t) (of:=of) (R:=R) (X:=[.arr 5 [(nd t i).cv]]) 0 rfl rfl rfl ?_;simp only[go_sem,Jv,frz,JK,Kn,Gb,Gc,Gd,hpR,Qc,show ¬(0:Nat)=0+4 by decide,if_false,if_true,Nd.cv,Gn,Gf,Gj];refine JH [0,0,0,4,0,0,0,4,0,0,0,0,0,0,0,0,0] Jm vM ?_;simp only[go_sem,OM,Z6]
 repeat refine aN ?_
 refine Jdx (.inl rfl) bv ?_;simp only[go_sem,txV,Ck,Ae,<-jM];refine Js (I:=λj:Nat=>j<=sp.length) (inv:=λj=>mkT 57 [(0,.ptr 0 0 0),(1,.int .i64 (i:Int)),(5,.rptr [.int .u8 ((nd t i).k:Int),S (nd t i).text,.int .i64 (nd t i).n,.rslc 1 (iz (nd t i).kids) none,.int .i64 (nd t i).pl]),(6,.rslc 1 (txz sp) none),(7,.rslc 1 (txz sr) none),(8,.bool (rC j)),(9,.int .i64 (j:Int))]) (hp:=λ_=>hpR t of R []) (μ:=λj=>sp.length-j) 0 [0,1,2,3] om rfl ?_ ?_ ?_
 ·simp only[J2,Gb,Gc,ren,Jl,Jc (JI _)];refine Jt ?_;simp[Km,Kw]
 ·exact KQ (X:=[.dead]) rfl
 ·intro j hj;by_cases hc:j<sp.length/\rC j=true
  ·obtain⟨Ab,hb⟩:=hc;obtain⟨iD,Al⟩:=jK j hb Ab;obtain⟨r1,r2,r3⟩:=BC j iD;rw[r3,<-JaI]at Al;have d1:=dtT j sp.length;have hO:=rmOne (of:=of) r2 hl;have hx:=X3 Ab;simp only[go_sem,Ck,d1,hb];refine JH [0,0,0,0,0,0,4,0,0,0,0,0,0] Jm vM ?_;simp only[go_sem,Ae,r1]
   repeat refine aN ?_
   refine vy_rm (R:=R) (X:=[]) hO (.inl rfl) rfl rfl rfl rfl ?_;simp only[go_sem,Ck,hx]
   repeat refine aN ?_
   refine⟨j+1,[0,1,2,3],om,om,rfl,KQ (X:=[]) rfl,?_⟩;rw[Al];simp only[J2,Gb,Gc,ren,Jl,Jc (JI _)];refine Jt ?_;simp[Km,Kw]
  ·have Bq:rC j=rC sp.length:=by
    rcases GV j sp.length with h|h
    ·have h2:rC j=false:=by rw[GJ];exact λe=>hc ⟨h,e⟩
     rw[h2,jL j h2 hj]
    ·rw[show j=sp.length by omega]
   by_cases Ab:j<sp.length
   ·have d1:=dtT j sp.length;have h2:rC j=false:=by rw[GJ];exact λe=>hc ⟨Ab,e⟩
    rw[<-Bq,h2]at AA;simp only[go_sem,Ck,d1,h2];refine Kon (X:=[]) AA ?_;simp only[go_sem];exact .done (wk.refl _)
   ·have d1:=dfF j sp.length;rw[<-Bq]at AA;simp only[go_sem,Ck,d1];refine Kon (X:=[]) AA ?_;simp only[go_sem];exact .done (wk.refl _)
end
theorem KK_ge{j:Nat}(h:(nd t i).kids.length<=j):KK t got i j=[]:=by unfold KK;rw[iN7]
theorem Jex:((spW a).1 == [115,116,114,101,97,109])=isStr a:=by rcases a with _|a|a|b|b <;> rfl
theorem spW_arr:((spW a).1 == [91,93])=Jca a:=by rcases a with _|a|a|b|b <;> rfl
theorem str_part(h:isStr a=true):[[S (spW a).2]]=txz [(prt a).getD .int]:=by rcases a with _|a|a|b|b <;> first|rfl|cases h
theorem arr_part(h:Jca a=true):[[S (spW a).2]]=txz [(prt a).getD .int]:=by rcases a with _|a|a|b|b <;> first|rfl|cases h
theorem str_whole(h:isStr a=true):[[S (opT a)]]=txz [.str ((prt a).getD .int)]:=by rcases a with _|a|a|b|b <;> first|rfl|cases h
theorem Jar(h:(opT a).length<=140):(tyT ((prt a).getD .int)).length<=140:=by
 have:=prt_len (a:=a)
 cases hp:prt a with
 |none=>simp[tyT]
 |some y=>rw[hp]at this;change (tyT y).length<=(opT a).length at this;simp only[G9];omega
theorem tail_eq {k:TL}:(if isStr (Kz k)=true then some k else none)=if isStr (Kz k)=true then some [TyX.str ((prt (Kz k)).getD .int)] else none:=by
 split
 ·rename_i h
  cases hk:Kz k with
  |none=>rw[hk]at h;cases h
  |some x=>
   rw[hk]at h
   cases x with
   |str b=>rw[XM.1 hk];rfl
   |_=>cases h
 ·rfl
theorem cons_eq {k0 k1:TL}:(!(opT (Kz k0) == []) && (opT (Kz k1) == [115,116,114,101,97,109,32]++opT (Kz k0)))=(isStr (Kz k1) && k0 == [(prt (Kz k1)).getD .int]):=by
 cases h0:Kz k0 with
 |none=>
  have:∀y,(k0 == [y])=false:=λy=>by rw[beq_eq_false_iff_ne];intro e;rw[XM.2 e]at h0;cases h0
  rw[this,Bool.and_false];rfl
 |some x=>
  obtain rfl:=XM.1 h0;have e1:(opT (some x) == [])=false:=beq_eq_false_iff_ne.2 Jes;rw[e1,Gw,Gu]
  cases h1:Kz k1 with
  |none=>rfl
  |some y=>
   rw[show (opT (some y) == [115,116,114,101,97,109,32]++opT (some x))=(tyT y == tyT (.str x)) from rfl,JdB]
   cases y with
   |str b=>
    simp only[isStr,prt,G9,Gu];rw[GR,beq_iff_eq,beq_iff_eq];exact⟨λh=>by cases h;rfl,λh=>by cases h;rfl⟩
   |_=>rfl
section
variable(g:GoodT t o)(ht:t.Fit){of:Lx}
include g ht
omit ht in
theorem kids_none(hi:i<t.nodes.length)(hk:(nd t i).k=1\/(nd t i).k=2\/(nd t i).k=3):(nd t i).kids.length=0:=by
 have hn:=g.nds (nd t i) (by unfold nd;rw[Gq,Gs hi];exact GD hi);rw[ndI_R]at hn;simp only[GQ]at hn;have h:=hn.1.1;unfold Qk at h;rw[iP7]at h;have h2:((lets t.nodes (nd t i)).length:Int)=0:=by simpa using h
 rw[KH]at h2;omega
omit ht in
theorem Jc0{a:TyX}(hi:i<t.nodes.length)(h:(nd t i).kids.length=2):allB t R.got i (tyT a)=(KK t R.got i 0 == [a] && KK t R.got i 1 == [a]):=by unfold allB;rw[h,show Gx 2=[0,1] from rfl,GZ,GZ,G5,G6,JaI,JaI,XZ g hi om (JC g hi om),XZ g hi om (JC g hi om),Gm,Gm]
omit ht in
theorem allB_one{a:TyX}(hi:i<t.nodes.length)(h:(nd t i).kids.length=1):allB t R.got i (tyT a)=(KK t R.got i 0 == [a]):=by unfold allB;rw[h,show Gx 1=[0] from rfl,GZ,G5,G6,JaI,XZ g hi om (JC g hi om),Gm]
theorem rmExpr1(hi:i<t.nodes.length)(hk:1<=(nd t i).k/\(nd t i).k<=24)(h3:(nd t i).k≠3)(hl:R.got.length=t.nodes.length)(hf:∀j,Qg (Jr R.got j)=true):RMe Ga 63 [.int .i64 (i:Int),.agg (nd t i).cv] t of R (R.ans i (Qd t m R.got i)) (.tup []):=by
 have Ag:=g.many;have Bj:=(JbM ht hi).kidn;have Ae:(iz (nd t i).kids).length=(nd t i).kids.length:=Jf;have hK:∀j,j<(nd t i).kids.length->(iz (nd t i).kids).getD j []=[.int .i64 ((Ju t i j:Nat):Int)]/\RMe Ga 103 [.int .i64 ((Ju t i j:Nat):Int)] t of R R (S (opT (Kz (KK t R.got i j))))/\Ju t i j<t.nodes.length:=λj hj=>by have h1:=(Jz g hi hj).2.1;refine⟨by rw[JF hj,JC g hi hj],?_,om⟩;rw[XZ g hi hj (JC g hi hj),Gm];exact rmKid om hl
 have Mq:∀j,(opT (Kz (KK t R.got i j))).length<=140:=λj=>by
  unfold KK
  split
  ·exact Jbe (hf _)
  ·simp[Kz,opT]
 obtain⟨c,Fv⟩:=JeN (Kz (KK t R.got i 0)) (by have:=Mq 0;omega);have d00:((0:Int)<((0:Nat):Int))=False:=eq_false vk;have d10:((1:Int)<((0:Nat):Int))=False:=eq_false vk;have d01:((0:Int)<((1:Nat):Int))=True:=eq_true vk;have d11:((1:Int)<((1:Nat):Int))=False:=eq_false vk;have d02:((0:Int)<((2:Nat):Int))=True:=eq_true vk;have d12:((1:Int)<((2:Nat):Int))=True:=eq_true vk;have rE:=JW (t:=t) (m:=m) (got:=R.got) (i:=i);refine QH (vfS c63_ok λN=>?_);by_cases kc:(nd t i).k=1\/(nd t i).k=2
 ·have A9:(nd t i).kids.length=0:=kids_none g hi om;rw[KK_ge om]at Fv;simp -implicitDefEqProofs only[go_sem,Ae,A9,d00,d10,c63,hpR,Qc,Nd.cv];refine J5 (t:=t) (of:=of) (R:=R) (X:=[.arr 5 [(nd t i).cv]]) 0 rfl rfl rfl ?_;simp -implicitDefEqProofs only[go_sem,Jv,frz,JK,Kn,Gb,Gc,Gd,Gg,hpR,Qc,show ¬(0:Nat)=0+4 by decide,if_false,if_true,Nd.cv,Gn,Gf,Gj];refine JU Fv ?_;by_cases kk:(nd t i).k=1
  ·simp -implicitDefEqProofs only[go_sem,kk,Gl];rw[rE,kk,rk_num];have eG:R.ans i (some [TyX.int])=R.give i true [.int]:=rfl;rw[eG];refine J5 (t:=t) (of:=of) (R:=R) (X:=[.dead,.arr 1 [[S [105,110,116]]]]) 1 rfl rfl rfl ?_;simp -implicitDefEqProofs only[go_sem,Jv,frz,JK,Kn,Gb,Gc,Gd,Gg,Gt,Gr,Gf,Gj,if_true,show ¬(4:Nat)=1+4 by decide,if_false];refine Kon (X:=[.dead,.dead]) (QJ (l:=[TyX.int]) (els:=[[S [105,110,116]]]) hi hl sM rfl (λ_=>rfl) (λa ha=>by rw[Gp.1 ha];decide)) ?_;simp -implicitDefEqProofs only[go_sem];exact .outR (wk.refl _) rfl
  by_cases kk:(nd t i).k=2
  ·simp -implicitDefEqProofs only[go_sem,kk,Gl];rw[rE,kk,rk_bool];have eG:R.ans i (some [TyX.bool])=R.give i true [.bool]:=rfl;rw[eG];refine J5 (t:=t) (of:=of) (R:=R) (X:=[.dead,.arr 1 [[S [98,111,111,108]]]]) 1 rfl rfl rfl ?_;simp -implicitDefEqProofs only[go_sem,Jv,frz,JK,Kn,Gb,Gc,Gd,Gg,Gt,Gr,Gf,Gj,if_true,show ¬(4:Nat)=1+4 by decide,if_false];refine Kon (X:=[.dead,.dead]) (QJ (l:=[TyX.bool]) (els:=[[S [98,111,111,108]]]) hi hl sM rfl (λ_=>rfl) (λa ha=>by rw[Gp.1 ha];decide)) ?_;simp -implicitDefEqProofs only[go_sem];exact .outR (wk.refl _) rfl
  exfalso;omega
 by_cases kc:19<=(nd t i).k
 ·have A9:(nd t i).kids.length=1:=Xu g hi (.inl ⟨om,om⟩);obtain⟨q1,q2,q3⟩:=hK 0 om;simp -implicitDefEqProofs only[go_sem,Ae,A9,d01,d11,c63,hpR,Qc,Nd.cv,q1]
  repeat refine aN ?_
  refine J5 (t:=t) (of:=of) (R:=R) (X:=[.arr 5 [(nd t i).cv]]) 0 rfl rfl rfl ?_;simp -implicitDefEqProofs only[go_sem,Jv,frz,JK,Kn,Gb,Gc,Gd,Gg,hpR,Qc,show ¬(0:Nat)=0+4 by decide,if_false,if_true,Nd.cv,Gn,Gf,Gj];refine Kon (X:=[.dead]) q2 ?_;simp -implicitDefEqProofs only[go_sem,Ae,A9,d01,d11];refine JU Fv ?_;by_cases kk:(nd t i).k=20
  ·simp -implicitDefEqProofs only[go_sem,kk,Gl];rw[rE,kk,rk_neg,Yl,<-allB_one g (a:=.int) hi A9];refine Kon (X:=[.dead]) (rmAll g ht (s:=[105,110,116]) hi hl) ?_;simp -implicitDefEqProofs only[go_sem];refine J5 (t:=t) (of:=of) (R:=R) (X:=[.dead,.arr 1 [[S [105,110,116]]]]) 1 rfl rfl rfl ?_;simp -implicitDefEqProofs only[go_sem,Jv,frz,JK,Kn,Gb,Gc,Gd,Gg,Gt,Gr,Gf,Gj,if_true,show ¬(4:Nat)=1+4 by decide,if_false];refine Kon (X:=[.dead,.dead]) (QJ (l:=[TyX.int]) (els:=[[S [105,110,116]]]) hi hl sM rfl (λ_=>rfl) (λa ha=>by rw[Gp.1 ha];decide)) ?_;simp -implicitDefEqProofs only[go_sem];exact .outR (wk.refl _) rfl
  by_cases kk:(nd t i).k=19
  ·simp -implicitDefEqProofs only[go_sem,kk,Gl];rw[rE,kk,rk_not,Yl,<-allB_one g (a:=.bool) hi A9];refine Kon (X:=[.dead]) (rmAll g ht (s:=[98,111,111,108]) hi hl) ?_;simp -implicitDefEqProofs only[go_sem];refine J5 (t:=t) (of:=of) (R:=R) (X:=[.dead,.arr 1 [[S [98,111,111,108]]]]) 1 rfl rfl rfl ?_;simp -implicitDefEqProofs only[go_sem,Jv,frz,JK,Kn,Gb,Gc,Gd,Gg,Gt,Gr,Gf,Gj,if_true,show ¬(4:Nat)=1+4 by decide,if_false];refine Kon (X:=[.dead,.dead]) (QJ (l:=[TyX.bool]) (els:=[[S [98,111,111,108]]]) hi hl sM rfl (λ_=>rfl) (λa ha=>by rw[Gp.1 ha];decide)) ?_;simp -implicitDefEqProofs only[go_sem];exact .outR (wk.refl _) rfl
  by_cases kk:(nd t i).k=21
  ·simp -implicitDefEqProofs only[go_sem,kk,Gl];rw[rE,kk,Jhj,Yl,<-Jex];refine J5 (t:=t) (of:=of) (R:=R) (X:=[.dead,.arr 1 [[S (spW (Kz (KK t R.got i 0))).2]]]) 1 rfl rfl rfl ?_;simp -implicitDefEqProofs only[go_sem,Jv,frz,JK,Kn,Gb,Gc,Gd,Gg,Gt,Gr,Gf,Gj,if_true,show ¬(4:Nat)=1+4 by decide,if_false];refine Ko (X:=[.dead,.dead]) (QJ (l:=[(prt (Kz (KK t R.got i 0))).getD .int]) (els:=[[S (spW (Kz (KK t R.got i 0))).2]]) hi hl sM rfl (λh=>str_part (by rw[<-Jex];exact h)) (λa ha=>by rw[Gp.1 ha];have:=Jar (Mq 0);omega)) (.inl rfl) rfl rfl rfl rfl ?_;simp -implicitDefEqProofs only[go_sem];exact .outR (wk.refl _) rfl
  by_cases kk:(nd t i).k=22
  ·simp -implicitDefEqProofs only[go_sem,kk,Gl];rw[rE,kk,Jhf,tail_eq,Yl,<-Jex];refine J5 (t:=t) (of:=of) (R:=R) (X:=[.dead,.arr 1 [[S (opT (Kz (KK t R.got i 0)))]]]) 1 rfl rfl rfl ?_;simp -implicitDefEqProofs only[go_sem,Jv,frz,JK,Kn,Gb,Gc,Gd,Gg,Gt,Gr,Gf,Gj,if_true,show ¬(4:Nat)=1+4 by decide,if_false];refine Ko (X:=[.dead,.dead]) (QJ (l:=[TyX.str ((prt (Kz (KK t R.got i 0))).getD .int)]) (els:=[[S (opT (Kz (KK t R.got i 0)))]]) hi hl sM rfl (λh=>str_whole (by rw[<-Jex];exact h)) (λa ha=>by rw[Gp.1 ha];have:=Jar (Mq 0);simp only[tyT,Xg,GL,Gi,Gh];omega)) (.inl rfl) rfl rfl rfl rfl ?_;simp -implicitDefEqProofs only[go_sem];exact .outR (wk.refl _) rfl
  by_cases kk:(nd t i).k=23
  ·simp -implicitDefEqProofs only[go_sem,kk,Gl];rw[rE,kk,Jd3,Yl,<-Jex];refine J5 (t:=t) (of:=of) (R:=R) (X:=[.dead,.arr 1 [[S [98,111,111,108]]]]) 1 rfl rfl rfl ?_;simp -implicitDefEqProofs only[go_sem,Jv,frz,JK,Kn,Gb,Gc,Gd,Gg,Gt,Gr,Gf,Gj,if_true,show ¬(4:Nat)=1+4 by decide,if_false];refine Kon (X:=[.dead,.dead]) (QJ (l:=[TyX.bool]) (els:=[[S [98,111,111,108]]]) hi hl sM rfl (λ_=>rfl) (λa ha=>by rw[Gp.1 ha];decide)) ?_;simp -implicitDefEqProofs only[go_sem];exact .outR (wk.refl _) rfl
  by_cases kk:(nd t i).k=24
  ·simp -implicitDefEqProofs only[go_sem,kk,Gl];rw[rE,kk,Jhg,Yl,<-spW_arr];refine J5 (t:=t) (of:=of) (R:=R) (X:=[.dead,.arr 1 [[S [105,110,116]]]]) 1 rfl rfl rfl ?_;simp -implicitDefEqProofs only[go_sem,Jv,frz,JK,Kn,Gb,Gc,Gd,Gg,Gt,Gr,Gf,Gj,if_true,show ¬(4:Nat)=1+4 by decide,if_false];refine Kon (X:=[.dead,.dead]) (QJ (l:=[TyX.int]) (els:=[[S [105,110,116]]]) hi hl sM rfl (λ_=>rfl) (λa ha=>by rw[Gp.1 ha];decide)) ?_;simp -implicitDefEqProofs only[go_sem];exact .outR (wk.refl _) rfl
  exfalso;omega
 ·have A9:(nd t i).kids.length=2:=kids_two g hi om;obtain⟨q1,q2,q3⟩:=hK 0 om;obtain⟨r1,r2,r3⟩:=hK 1 om;simp -implicitDefEqProofs only[go_sem,Ae,A9,d02,d12,c63,hpR,Qc,Nd.cv,q1]
  repeat refine aN ?_
  refine J5 (t:=t) (of:=of) (R:=R) (X:=[.arr 5 [(nd t i).cv]]) 0 rfl rfl rfl ?_;simp -implicitDefEqProofs only[go_sem,Jv,frz,JK,Kn,Gb,Gc,Gd,Gg,hpR,Qc,show ¬(0:Nat)=0+4 by decide,if_false,if_true,Nd.cv,Gn,Gf,Gj];refine Kon (X:=[.dead]) q2 ?_;simp -implicitDefEqProofs only[go_sem,Ae,A9,d02,d12,r1]
  repeat refine aN ?_
  refine Kon (X:=[.dead]) r2 ?_;simp -implicitDefEqProofs only[go_sem,Ae,A9,d02,d12];refine JU Fv ?_;by_cases kk:(nd t i).k=13\/(nd t i).k=14\/(nd t i).k=15\/(nd t i).k=16\/(nd t i).k=17
  ·rcases kk with kk|kk|kk|kk|kk
   all_goals
    simp -implicitDefEqProofs only[go_sem,kk,Gl];rw[rE,kk,rk_add om,Yl,<-Jc0 g (a:=.int) hi A9];refine Kon (X:=[.dead]) (rmAll g ht (s:=[105,110,116]) hi hl) ?_;simp -implicitDefEqProofs only[go_sem];refine J5 (t:=t) (of:=of) (R:=R) (X:=[.dead,.arr 1 [[S [105,110,116]]]]) 1 rfl rfl rfl ?_;simp -implicitDefEqProofs only[go_sem,Jv,frz,JK,Kn,Gb,Gc,Gd,Gg,Gt,Gr,Gf,Gj,if_true,show ¬(4:Nat)=1+4 by decide,if_false];refine Kon (X:=[.dead,.dead]) (QJ (l:=[TyX.int]) (els:=[[S [105,110,116]]]) hi hl sM rfl (λ_=>rfl) (λa ha=>by rw[Gp.1 ha];decide)) ?_;simp -implicitDefEqProofs only[go_sem];exact .outR (wk.refl _) rfl
  by_cases kk:(nd t i).k=9\/(nd t i).k=10\/(nd t i).k=11\/(nd t i).k=12
  ·rcases kk with kk|kk|kk|kk
   all_goals
    simp -implicitDefEqProofs only[go_sem,kk,Gl];rw[rE,kk,rk_lt om,Yl,<-Jc0 g (a:=.int) hi A9];refine Kon (X:=[.dead]) (rmAll g ht (s:=[105,110,116]) hi hl) ?_;simp -implicitDefEqProofs only[go_sem];refine J5 (t:=t) (of:=of) (R:=R) (X:=[.dead,.arr 1 [[S [98,111,111,108]]]]) 1 rfl rfl rfl ?_;simp -implicitDefEqProofs only[go_sem,Jv,frz,JK,Kn,Gb,Gc,Gd,Gg,Gt,Gr,Gf,Gj,if_true,show ¬(4:Nat)=1+4 by decide,if_false];refine Kon (X:=[.dead,.dead]) (QJ (l:=[TyX.bool]) (els:=[[S [98,111,111,108]]]) hi hl sM rfl (λ_=>rfl) (λa ha=>by rw[Gp.1 ha];decide)) ?_;simp -implicitDefEqProofs only[go_sem];exact .outR (wk.refl _) rfl
  by_cases kk:(nd t i).k=5\/(nd t i).k=6
  ·rcases kk with kk|kk
   all_goals
    simp -implicitDefEqProofs only[go_sem,kk,Gl];rw[rE,kk,rk_or om,Yl,<-Jc0 g (a:=.bool) hi A9];refine Kon (X:=[.dead]) (rmAll g ht (s:=[98,111,111,108]) hi hl) ?_;simp -implicitDefEqProofs only[go_sem];refine J5 (t:=t) (of:=of) (R:=R) (X:=[.dead,.arr 1 [[S [98,111,111,108]]]]) 1 rfl rfl rfl ?_;simp -implicitDefEqProofs only[go_sem,Jv,frz,JK,Kn,Gb,Gc,Gd,Gg,Gt,Gr,Gf,Gj,if_true,show ¬(4:Nat)=1+4 by decide,if_false];refine Kon (X:=[.dead,.dead]) (QJ (l:=[TyX.bool]) (els:=[[S [98,111,111,108]]]) hi hl sM rfl (λ_=>rfl) (λa ha=>by rw[Gp.1 ha];decide)) ?_;simp -implicitDefEqProofs only[go_sem];exact .outR (wk.refl _) rfl
  by_cases kk:(nd t i).k=7\/(nd t i).k=8
  ·rcases kk with kk|kk
   all_goals
    simp -implicitDefEqProofs only[go_sem,kk,Gl];rw[rE,kk,rk_eq om,Yl,<-Jc0 g (a:=.int) hi A9,<-Jc0 g (a:=.bool) hi A9];refine Kon (X:=[.dead]) (rmAll g ht (s:=[105,110,116]) hi hl) ?_;have eI:allB t R.got i (tyT .int)=allB t R.got i [105,110,116]:=rfl;rw[eI]
    cases hb:allB t R.got i [105,110,116]with
    |true=>simp -implicitDefEqProofs only[go_sem,H8];refine J5 (t:=t) (of:=of) (R:=R) (X:=[.dead,.arr 1 [[S [98,111,111,108]]]]) 1 rfl rfl rfl ?_;simp -implicitDefEqProofs only[go_sem,Jv,frz,JK,Kn,Gb,Gc,Gd,Gg,Gt,Gr,Gf,Gj,if_true,show ¬(4:Nat)=1+4 by decide,if_false];refine Kon (X:=[.dead,.dead]) (QJ (l:=[TyX.bool]) (els:=[[S [98,111,111,108]]]) hi hl sM rfl (λ_=>rfl) (λa ha=>by rw[Gp.1 ha];decide)) ?_;simp -implicitDefEqProofs only[go_sem];exact .outR (wk.refl _) rfl
    |false=>simp -implicitDefEqProofs only[go_sem,H7];refine Ko (X:=[.dead]) (rmAll g ht (s:=[98,111,111,108]) hi hl) (gok rfl) rfl rfl rfl rfl ?_;simp -implicitDefEqProofs only[go_sem];refine J5 (t:=t) (of:=of) (R:=R) (X:=[.dead,.arr 1 [[S [98,111,111,108]]]]) 1 rfl rfl rfl ?_;simp -implicitDefEqProofs only[go_sem,Jv,frz,JK,Kn,Gb,Gc,Gd,Gg,Gt,Gr,Gf,Gj,if_true,show ¬(4:Nat)=1+4 by decide,if_false];refine Kon (X:=[.dead,.dead]) (QJ (l:=[TyX.bool]) (els:=[[S [98,111,111,108]]]) hi hl sM rfl (λ_=>rfl) (λa ha=>by rw[Gp.1 ha];decide)) ?_;simp -implicitDefEqProofs only[go_sem];exact .outR (wk.refl _) rfl
  by_cases kk:(nd t i).k=18
  ·simp -implicitDefEqProofs only[go_sem,kk,Gl];rw[rE,kk,Jhh,Yl,<-spW_arr,<-JaI];have eI:(opT (Kz (KK t R.got i 1)) == tyT .int)=(opT (Kz (KK t R.got i 1)) == [105,110,116]):=rfl;rw[eI]
   cases hb:(spW (Kz (KK t R.got i 0))).1 == [91,93]with
   |true=>simp -implicitDefEqProofs only[go_sem,hb,Gu];refine J5 (t:=t) (of:=of) (R:=R) (X:=[.dead,.arr 1 [[S (spW (Kz (KK t R.got i 0))).2]]]) 1 rfl rfl rfl ?_;simp -implicitDefEqProofs only[go_sem,Jv,frz,JK,Kn,Gb,Gc,Gd,Gg,Gt,Gr,Gf,Gj,if_true,show ¬(4:Nat)=1+4 by decide,if_false];refine Ko (X:=[.dead,.dead]) (QJ (l:=[(prt (Kz (KK t R.got i 0))).getD .int]) (els:=[[S (spW (Kz (KK t R.got i 0))).2]]) hi hl sM rfl (λ_=>arr_part (by rw[<-spW_arr];exact hb)) (λa ha=>by rw[Gp.1 ha];have:=Jar (Mq 0);omega)) (.inl rfl) rfl rfl rfl rfl ?_;simp -implicitDefEqProofs only[go_sem];exact .outR (wk.refl _) rfl
   |false=>simp -implicitDefEqProofs only[go_sem,hb,GG];refine J5 (t:=t) (of:=of) (R:=R) (X:=[.dead,.arr 1 [[S (spW (Kz (KK t R.got i 0))).2]]]) 1 rfl rfl rfl ?_;simp -implicitDefEqProofs only[go_sem,Jv,frz,JK,Kn,Gb,Gc,Gd,Gg,Gt,Gr,Gf,Gj,if_true,show ¬(4:Nat)=1+4 by decide,if_false];refine Ko (X:=[.dead,.dead]) (QJ (l:=[(prt (Kz (KK t R.got i 0))).getD .int]) (els:=[[S (spW (Kz (KK t R.got i 0))).2]]) hi hl sM rfl (λh=>by cases h) (λa ha=>by rw[Gp.1 ha];have:=Jar (Mq 0);omega)) (.inl rfl) rfl rfl rfl rfl ?_;simp -implicitDefEqProofs only[go_sem];exact .outR (wk.refl _) rfl
  by_cases kk:(nd t i).k=4
  ·simp -implicitDefEqProofs only[go_sem,kk,Gl];rw[rE,kk,Jhk,Yl,<-cons_eq];have b1:=Mq 0
   cases hb:opT (Kz (KK t R.got i 0)) == []with
   |true=>
    simp -implicitDefEqProofs only[go_sem,hb,Gv,GG];refine J5 (t:=t) (of:=of) (R:=R) (X:=[.dead,.arr 1 [[S (opT (Kz (KK t R.got i 1)))]]]) 1 rfl rfl rfl ?_;simp -implicitDefEqProofs only[go_sem,Jv,frz,JK,Kn,Gb,Gc,Gd,Gg,Gt,Gr,Gf,Gj,if_true,show ¬(4:Nat)=1+4 by decide,if_false];refine Ko (X:=[.dead,.dead]) (QJ (l:=[TyX.str ((prt (Kz (KK t R.got i 1))).getD .int)]) (els:=[[S (opT (Kz (KK t R.got i 1)))]]) hi hl sM rfl (λh=>by cases h) (λa ha=>by rw[Gp.1 ha];have:=Jar (Mq 1);simp only[tyT,Xg,GL,Gi,Gh];omega)) (.inl rfl) rfl rfl rfl rfl ?_;simp -implicitDefEqProofs only[go_sem];exact .outR (wk.refl _) rfl
   |false=>
    have eC:=cons_eq (k0:=KK t R.got i 0) (k1:=KK t R.got i 1);rw[hb,Gw,Gu]at eC;simp -implicitDefEqProofs only[go_sem,hb,Gw,Gu]
    repeat refine aN ?_
    refine J5 (t:=t) (of:=of) (R:=R) (X:=[.dead,.arr 1 [[S (opT (Kz (KK t R.got i 1)))]]]) 1 rfl rfl rfl ?_;simp -implicitDefEqProofs only[go_sem,Jv,frz,JK,Kn,Gb,Gc,Gd,Gg,Gt,Gr,Gf,Gj,if_true,show ¬(4:Nat)=1+4 by decide,if_false];refine Ko (X:=[.dead,.dead]) (QJ (l:=[TyX.str ((prt (Kz (KK t R.got i 1))).getD .int)]) (els:=[[S (opT (Kz (KK t R.got i 1)))]]) hi hl sM rfl (λh=>str_whole (by have h2:=eC.symm.trans h;simp only[GQ]at h2;exact h2.1)) (λa ha=>by rw[Gp.1 ha];have:=Jar (Mq 1);simp only[tyT,Xg,GL,Gi,Gh];omega)) (.inl rfl) rfl rfl rfl rfl ?_;simp -implicitDefEqProofs only[go_sem];exact .outR (wk.refl _) rfl
  exfalso;omega
end
section
variable(g:GoodT t o)(ht:t.Fit){of:Lx}
include g ht
theorem rmExpr2(hi:i<t.nodes.length)(hk:25<=(nd t i).k/\(nd t i).k<=29)(Bd:of.length=t.nodes.length)(CW:(nd t i).k=26->of.getD i 0=(m:Int)/\m<t.nodes.length/\(nd t m).k=65)(hl:R.got.length=t.nodes.length)(Bb:Ln R.got)(hf:∀j,Qg (Jr R.got j)=true):RMe Ga 63 [.int .i64 (i:Int),.agg (nd t i).cv] t of R (R.ans i (Qd t m R.got i)) (.tup []):=by
 have Ag:=g.many;have Bj:=(JbM ht hi).kidn;have Ae:(iz (nd t i).kids).length=(nd t i).kids.length:=Jf;have Em:(gz R.got).length=t.nodes.length:=by rw[QB,hl]
 have hK:∀j,j<(nd t i).kids.length->(iz (nd t i).kids).getD j []=[.int .i64 ((Ju t i j:Nat):Int)]/\RMe Ga 103 [.int .i64 ((Ju t i j:Nat):Int)] t of R R (S (opT (Kz (KK t R.got i j))))/\Ju t i j<t.nodes.length/\(gz R.got).getD (Ju t i j) []=[txV (KK t R.got i j)]:=λj hj=>by
  have h1:=(Jz g hi hj).2.1;refine⟨by rw[JF hj,JC g hi hj],?_,om,?_⟩
  ·rw[XZ g hi hj (JC g hi hj),Gm];exact rmKid om hl
  ·rw[XZ g hi hj (JC g hi hj),Gm];exact KV om
 have Mq:∀j,(opT (Kz (KK t R.got i j))).length<=140:=λj=>by
  unfold KK
  split
  ·exact Jbe (hf _)
  ·simp[Kz,opT]
 have Mo:∀j,(KK t R.got i j).length<=30/\∀a∈KK t R.got i j,(tyT a).length<=100000:=λj=>by
  unfold KK
  split
  ·exact⟨Bb _,λa ha=>by have:=Yx (hf _) ha;omega⟩
  ·exact⟨sM,λa ha=>by cases ha⟩
 obtain⟨c,Fv⟩:=JeN (Kz (KK t R.got i 0)) (by have:=Mq 0;omega);have rE:=JW (t:=t) (m:=m) (got:=R.got) (i:=i);refine QH (vfS c63_ok λN=>?_);by_cases kk:(nd t i).k=25
 ·skip
  have A9:=Xu g hi (.inl ⟨om,om⟩);have e0:((0:Int)<((nd t i).kids.length:Int))=True:=J4;have e1:((1:Int)<((nd t i).kids.length:Int))=False:=JS;obtain⟨w1,w2,w3,w4⟩:=Yp g hi (.inl kk);have hT:=YO g ht (Ju t i 0) om w3 w4;have UE:=X0 (t:=t) (i:=Ju t i 0) om;have eT:tyT (.str (tyN t (Ju t i 0)))=[115,116,114,101,97,109,32]++tyT (tyN t (Ju t i 0)):=rfl;have Di:=YN (of:=of) (b:=true) (l:=[TyX.str (tyN t (Ju t i 0))]) hi hl sM (λa ha=>by rw[Gp.1 ha,eT];simp only[GL,Gi,Gh];omega);have eA:R.ans i (Qd t m R.got i)=R.give i true [TyX.str (tyN t (Ju t i 0))]:=by rw[rE,kk,rk_nil];rfl
  rw[eA];obtain⟨q1,q2,q3,q4⟩:=hK 0 om;simp -implicitDefEqProofs only[go_sem,Ae,e0,e1,c63,hpR,Qc,Nd.cv,q1]
  repeat refine aN ?_
  refine J5 (t:=t) (of:=of) (R:=R) (X:=[.arr 5 [(nd t i).cv]]) 0 rfl rfl rfl ?_;simp -implicitDefEqProofs only[go_sem,Jv,frz,JK,Kn,Gb,Gc,Gd,Gg,hpR,Qc,show ¬(0:Nat)=0+4 by decide,if_false,if_true,Nd.cv,Gn,Gf,Gj];refine Kon (X:=[.dead]) q2 ?_;simp -implicitDefEqProofs only[go_sem,Ae,e0,e1];refine JU Fv ?_;simp -implicitDefEqProofs only[go_sem,kk,Gl];refine JH [0,0,0,0,0,4,0,0,0,0,0,0,0,2] Jm vM ?_;simp -implicitDefEqProofs only[go_sem,hpR,Qc,Ae,q1]
  repeat refine aN ?_
  refine Jdx (.inl rfl) hT ?_;simp -implicitDefEqProofs only[go_sem]
  repeat refine aN ?_
  refine YI [[S (tyT (.str (tyN t (Ju t i 0))))]] (.inl rfl) rfl rfl rfl rfl ?_;simp -implicitDefEqProofs only[go_sem];refine JaB (.inl rfl) (Di.on (X:=[.dead]) rfl rfl) ?_;simp -implicitDefEqProofs only[go_sem];exact .outR (wk.refl _) rfl
 by_cases kk:(nd t i).k=27
 ·skip
  have A9:=kids_if g hi kk;have e0:((0:Int)<((nd t i).kids.length:Int))=True:=J4;have e1:((1:Int)<((nd t i).kids.length:Int))=True:=J4;obtain⟨s1,s2,s3,s4⟩:=hK 2 om;have Uf:=Jcw (KK t R.got i 1) (KK t R.got i 2) (by have:=(Mo 1).1;omega);have eB:(opT (Kz (KK t R.got i 0)) == [98,111,111,108])=(KK t R.got i 0 == [TyX.bool]):=JaI (a:=.bool);have Di:=λb=>YN (of:=of) (b:=b) (l:=KK t R.got i 1) hi hl (by have:=(Mo 1).1;omega) (Mo 1).2
  rw[rE,kk,rk_if,Yl];obtain⟨q1,q2,q3,q4⟩:=hK 0 om;obtain⟨r1,r2,r3,r4⟩:=hK 1 om;simp -implicitDefEqProofs only[go_sem,Ae,e0,e1,c63,hpR,Qc,Nd.cv,q1]
  repeat refine aN ?_
  refine J5 (t:=t) (of:=of) (R:=R) (X:=[.arr 5 [(nd t i).cv]]) 0 rfl rfl rfl ?_;simp -implicitDefEqProofs only[go_sem,Jv,frz,JK,Kn,Gb,Gc,Gd,Gg,hpR,Qc,show ¬(0:Nat)=0+4 by decide,if_false,if_true,Nd.cv,Gn,Gf,Gj];refine Kon (X:=[.dead]) q2 ?_;simp -implicitDefEqProofs only[go_sem,Ae,e0,e1,r1]
  repeat refine aN ?_
  refine Kon (X:=[.dead]) r2 ?_;simp -implicitDefEqProofs only[go_sem,Ae,e0,e1];refine JU Fv ?_;simp -implicitDefEqProofs only[go_sem,kk,Gl];refine JQ Jm vM ?_;simp -implicitDefEqProofs only[go_sem,hpR,Qc,Ae,r1,Em,r4]
  repeat refine aN ?_
  refine JH [0,0,0,0,0,0,0,0,0,4,0,0,0,0,1,1,0,0,0,2] Jm vM ?_
  cases hb:(KK t R.got i 0 == [TyX.bool]) with
  |false=>rw[hb]at eB;simp -implicitDefEqProofs only[go_sem,hpR,Qc,eB,GG];refine JaB (.inl rfl) ((Di false).on (X:=[.dead]) rfl rfl) ?_;simp -implicitDefEqProofs only[go_sem];exact .outR (wk.refl _) rfl
  |true=>
   rw[hb]at eB;simp -implicitDefEqProofs only[go_sem,hpR,Qc,eB,Ae,s1,Em,s4,Gu]
   repeat refine aN ?_
   refine Jdx (gok rfl) Uf ?_;simp -implicitDefEqProofs only[go_sem];refine JaB (.inl rfl) ((Di _).on (X:=[.dead]) rfl rfl) ?_;simp -implicitDefEqProofs only[go_sem];exact .outR (wk.refl _) rfl
 by_cases kk:(nd t i).k=28
 ·skip
  obtain⟨n,b,n1,n2,n3,_⟩:=Ye g hi kk;change (nd t i).n=n at n1;change b<(nd t i).kids.length at n3;have e0:((0:Int)<((nd t i).kids.length:Int))=True:=J4;have e1:((1:Int)<((nd t i).kids.length:Int))=True:=J4;obtain⟨s1,s2,s3,s4⟩:=hK n om;obtain⟨t1,t2,t3,t4⟩:=hK ((nd t i).kids.length-1) om;have hO:=rmOne (of:=of) s3 hl;rw[show Jr R.got (Ju t i n)=KK t R.got i n by rw[XZ g hi om (JC g hi om),Gm]]at hO;have Io:=Yn g ht hi om;have Ob:Ji t i=Ju t i ((nd t i).kids.length-1):=rfl;rw[Ob]at Io;have eB:(opT (Kz (KK t R.got i n)) == [98,111,111,108])=(KK t R.got i n == [TyX.bool]):=JaI (a:=.bool);have Di:=λb=>YN (of:=of) (b:=b) (l:=KK t R.got i ((nd t i).kids.length-1)) hi hl (by have:=(Mo ((nd t i).kids.length-1)).1;omega) (Mo ((nd t i).kids.length-1)).2
  rw[rE,kk,n1,Gm,Jhi,Yl];obtain⟨q1,q2,q3,q4⟩:=hK 0 om;obtain⟨r1,r2,r3,r4⟩:=hK 1 om;simp -implicitDefEqProofs only[go_sem,Ae,e0,e1,c63,hpR,Qc,Nd.cv,q1]
  repeat refine aN ?_
  refine J5 (t:=t) (of:=of) (R:=R) (X:=[.arr 5 [(nd t i).cv]]) 0 rfl rfl rfl ?_;simp -implicitDefEqProofs only[go_sem,Jv,frz,JK,Kn,Gb,Gc,Gd,Gg,hpR,Qc,show ¬(0:Nat)=0+4 by decide,if_false,if_true,Nd.cv,Gn,Gf,Gj];refine Kon (X:=[.dead]) q2 ?_;simp -implicitDefEqProofs only[go_sem,Ae,e0,e1,r1]
  repeat refine aN ?_
  refine Kon (X:=[.dead]) r2 ?_;simp -implicitDefEqProofs only[go_sem,Ae,e0,e1];refine JU Fv ?_;simp -implicitDefEqProofs only[go_sem,kk,Gl];refine JH [0,0,0,0,0,0,0,0,0,4,0,0,0,0,4,0,0,0,4,0,0,1,1,2] Jm vM ?_;simp -implicitDefEqProofs only[go_sem,hpR,Qc,Ae,n1,s1]
  repeat refine aN ?_
  refine vy_rm (R:=R) (X:=[.dead]) hO (.inl rfl) rfl rfl rfl rfl ?_;simp -implicitDefEqProofs only[go_sem,hpR,Qc,eB];refine Jdx (.inl rfl) Io ?_;simp -implicitDefEqProofs only[go_sem,Em,t4]
  repeat refine aN ?_
  refine JaB (.inl rfl) ((Di _).on (X:=[.dead]) rfl rfl) ?_;simp -implicitDefEqProofs only[go_sem];exact .outR (wk.refl _) rfl
 by_cases kk:(nd t i).k=29
 ·skip
  have h2:=arr_two (K:=⟨t,[],[],[]⟩) g hi kk;change 2<=(nd t i).kids.length at h2;have e0:((0:Int)<((nd t i).kids.length:Int))=True:=J4;have e1:((1:Int)<((nd t i).kids.length:Int))=True:=J4;have hC:=rmArray g ht (of:=of) (m:=m) hi kk hl hf;simp only[Nd.cv,kk,Gl]at hC;obtain⟨q1,q2,q3,q4⟩:=hK 0 om;obtain⟨r1,r2,r3,r4⟩:=hK 1 om;simp -implicitDefEqProofs only[go_sem,Ae,e0,e1,c63,hpR,Qc,Nd.cv,q1]
  repeat refine aN ?_
  refine J5 (t:=t) (of:=of) (R:=R) (X:=[.arr 5 [(nd t i).cv]]) 0 rfl rfl rfl ?_;simp -implicitDefEqProofs only[go_sem,Jv,frz,JK,Kn,Gb,Gc,Gd,Gg,hpR,Qc,show ¬(0:Nat)=0+4 by decide,if_false,if_true,Nd.cv,Gn,Gf,Gj];refine Kon (X:=[.dead]) q2 ?_;simp -implicitDefEqProofs only[go_sem,Ae,e0,e1,r1]
  repeat refine aN ?_
  refine Kon (X:=[.dead]) r2 ?_;simp -implicitDefEqProofs only[go_sem,Ae,e0,e1];refine JU Fv ?_;simp -implicitDefEqProofs only[go_sem,kk,Gl];refine Kon (X:=[.dead]) hC ?_;simp -implicitDefEqProofs only[go_sem];exact .outR (wk.refl _) rfl
 by_cases kk:(nd t i).k=26
 ·skip
  obtain⟨f1,f2,f3⟩:=CW kk;have hC:=rmCall g ht (of:=of) (m:=m) hi kk Bd f1 f2 f3 hl;simp only[Nd.cv,kk,Gl]at hC;by_cases l0:(nd t i).kids.length=0
  ·skip
   have e0:((0:Int)<((nd t i).kids.length:Int))=False:=JS;have e1:((1:Int)<((nd t i).kids.length:Int))=False:=JS;rw[KK_ge om]at Fv;simp -implicitDefEqProofs only[go_sem,Ae,e0,e1,c63,hpR,Qc,Nd.cv];refine J5 (t:=t) (of:=of) (R:=R) (X:=[.arr 5 [(nd t i).cv]]) 0 rfl rfl rfl ?_;simp -implicitDefEqProofs only[go_sem,Jv,frz,JK,Kn,Gb,Gc,Gd,Gg,hpR,Qc,show ¬(0:Nat)=0+4 by decide,if_false,if_true,Nd.cv,Gn,Gf,Gj];refine JU Fv ?_;simp -implicitDefEqProofs only[go_sem,kk,Gl];refine Kon (X:=[.dead]) hC ?_;simp -implicitDefEqProofs only[go_sem];exact .outR (wk.refl _) rfl
  by_cases l1:(nd t i).kids.length=1
  ·skip
   have e0:((0:Int)<((nd t i).kids.length:Int))=True:=J4;have e1:((1:Int)<((nd t i).kids.length:Int))=False:=JS;obtain⟨q1,q2,q3,q4⟩:=hK 0 om;simp -implicitDefEqProofs only[go_sem,Ae,e0,e1,c63,hpR,Qc,Nd.cv,q1]
   repeat refine aN ?_
   refine J5 (t:=t) (of:=of) (R:=R) (X:=[.arr 5 [(nd t i).cv]]) 0 rfl rfl rfl ?_;simp -implicitDefEqProofs only[go_sem,Jv,frz,JK,Kn,Gb,Gc,Gd,Gg,hpR,Qc,show ¬(0:Nat)=0+4 by decide,if_false,if_true,Nd.cv,Gn,Gf,Gj];refine Kon (X:=[.dead]) q2 ?_;simp -implicitDefEqProofs only[go_sem,Ae,e0,e1];refine JU Fv ?_;simp -implicitDefEqProofs only[go_sem,kk,Gl];refine Kon (X:=[.dead]) hC ?_;simp -implicitDefEqProofs only[go_sem];exact .outR (wk.refl _) rfl
  have e0:((0:Int)<((nd t i).kids.length:Int))=True:=J4;have e1:((1:Int)<((nd t i).kids.length:Int))=True:=J4;obtain⟨q1,q2,q3,q4⟩:=hK 0 om;obtain⟨r1,r2,r3,r4⟩:=hK 1 om;simp -implicitDefEqProofs only[go_sem,Ae,e0,e1,c63,hpR,Qc,Nd.cv,q1]
  repeat refine aN ?_
  refine J5 (t:=t) (of:=of) (R:=R) (X:=[.arr 5 [(nd t i).cv]]) 0 rfl rfl rfl ?_;simp -implicitDefEqProofs only[go_sem,Jv,frz,JK,Kn,Gb,Gc,Gd,Gg,hpR,Qc,show ¬(0:Nat)=0+4 by decide,if_false,if_true,Nd.cv,Gn,Gf,Gj];refine Kon (X:=[.dead]) q2 ?_;simp -implicitDefEqProofs only[go_sem,Ae,e0,e1,r1]
  repeat refine aN ?_
  refine Kon (X:=[.dead]) r2 ?_;simp -implicitDefEqProofs only[go_sem,Ae,e0,e1];refine JU Fv ?_;simp -implicitDefEqProofs only[go_sem,kk,Gl];refine Kon (X:=[.dead]) hC ?_;simp -implicitDefEqProofs only[go_sem];exact .outR (wk.refl _) rfl
 exfalso;omega
end
def RS.binds (t:Tr)(s:Nat)(R:RS):RS:=if 0<=R.bad then R else if (Jr R.got (Ji t s)).length=(nd t s).n.toNat then { R with got:=Yb t s (Jr R.got (Ji t s)) R.got (nd t s).n.toNat } else R.fail s
section
variable(g:GoodT t o)(ht:t.Fit){of:Lx}
include g ht
theorem rmBinds {s:Nat}(hs:s<t.nodes.length)(hk:(nd t s).k=41)(hl:R.got.length=t.nodes.length)(Bb:Ln R.got):RMe Ga 114 [.int .i64 (s:Int)] t of R (R.binds t s) (.tup []):=by
 have Ag:=g.many;have hg:=JX hs;have AO:(gz R.got).length=t.nodes.length:=by rw[QB,hl]
 have Bj:=(JbM ht hs).kidn;have Ae:(iz (nd t s).kids).length=(nd t s).kids.length:=Jf;obtain⟨n,n1,n2,n3,n4⟩:=Yu g hs hk;change (nd t s).n=n at n1;change (nd t s).kids.length=n+1 at n2;obtain⟨_,_,_,hL⟩:=KA g hs hk;have De:=KV (l:=R.got) (i:=Ji t s) om;have bG:=Bb (Ji t s);have Io:=Yn g ht hs om;have Br:(txz (Jr R.got (Ji t s))).length=(Jr R.got (Ji t s)).length:=KL;refine QH (vfS c114_ok λN=>?_);simp only[c114,go_sem,hpR,Qc,Ja,hg,Nd.cv]
 repeat refine aN ?_
 refine JH [0,0,0,4,0,0,0,4,0,0,1,1,0] Jm vM ?_;simp only[go_sem];refine Jdx (.inl rfl) Io ?_;by_cases hb:0<=R.bad
 ·have d0:(0<=R.bad)=True:=eq_true hb;have e:R.binds t s=R:=by unfold RS.binds;rw[if_pos hb]
  rw[e];simp only[go_sem,AO,De,d0]
  repeat refine aN ?_
  exact .outR (X:=[_]) (wk.refl _) rfl
 have d0:(0<=R.bad)=False:=eq_false hb;by_cases Ad:(Jr R.got (Ji t s)).length=n
 case neg=>
  have e:R.binds t s=R.fail s:=by unfold RS.binds;rw[if_neg hb,n1,Gm,if_neg Ad]
  have d1:(((Jr R.got (Ji t s)).length:Int) != (n:Int))=true:=by rw[bne_iff_ne];omega
  rw[e];simp only[go_sem,AO,De,d0,txV,Br,n1,d1]
  repeat refine aN ?_
  refine Ko (R:=R) (X:=[.arr 5 [[.int .u8 ((nd t s).k:Int),S (nd t s).text,.int .i64 (n:Int),.rslc 1 (iz (nd t s).kids) none,.int .i64 (nd t s).pl]]]) Jcu (.inl rfl) rfl rfl rfl rfl ?_;simp only[go_sem];exact .outR (wk.refl _) rfl
 have e:R.binds t s = { R with got:=Yb t s (Jr R.got (Ji t s)) R.got n }:=by unfold RS.binds;rw[if_neg hb,n1,Gm,if_pos Ad]
 rw[e];clear e;have d1:(((Jr R.got (Ji t s)).length:Int) != (n:Int))=false:=by rw[Ad];exact bne_self_eq_false _
 simp only[go_sem,AO,De,d0,txV,Br,n1,d1]
 repeat refine aN ?_
 refine J5 (t:=t) (of:=of) (R:=R) (X:=[.arr 5 [[.int .u8 ((nd t s).k:Int),S (nd t s).text,.int .i64 (n:Int),.rslc 1 (iz (nd t s).kids) none,.int .i64 (nd t s).pl]]]) 0 rfl rfl rfl ?_;simp only[go_sem,Jv,frz,JK,Kn,Gb,Gc,Gd,show ¬(0:Nat)=0+4 by decide,if_false,if_true,Gn,Gf,Gj];generalize Jr R.got (Ji t s)=l at *;have CK:∀j,(Yb t s l R.got j).length=t.nodes.length:=λj=>by rw[Yw];exact hl
 refine Js (I:=λj:Nat=>j<=n) (inv:=λj=>mkT 76 [(0,.ptr 0 0 0),(4,.rptr [.int .u8 ((nd t s).k:Int),S (nd t s).text,.int .i64 (n:Int),.rslc 1 (iz (nd t s).kids) none,.int .i64 (nd t s).pl]),(5,.rslc 1 (txz l) none),(6,.int .i64 (j:Int))]) (hp:=λj=>hpR t of { R with got:=Yb t s l R.got j } []) (μ:=λj=>n-j) 0 [0,1,2,3] om rfl ?_ ?_ ?_
 ·simp only[J2,Gb,Gc,ren,Jl,Jc (JI _)];refine Jt ?_;simp[Km,Kw]
 ·exact KQ (X:=[.dead]) rfl
 ·intro j hj;by_cases Ab:j<n
  ·have d2:=dtT j n;have hm:=Jz g hs (i:=j) om;have MR:(iz (nd t s).kids).getD j []=[.int .i64 ((Ju t s j:Nat):Int)]:=by rw[JF om,JC g hs om]
   have D9:=JX (t:=t) (i:=Ju t s j) om;have Az:(iz (nd t (Ju t s j)).kids).length=(nd t (Ju t s j)).kids.length:=Jf;have Dr:Yb t s l R.got (j+1)=if (nd t (Ju t s j)).kids=[] then(Yb t s l R.got j).set (Ju t s j) [l.getD j .int] else Yb t s l R.got j:=rfl
   have hx:=X3 (l:=l) (i:=j) om;simp only[go_sem,d2];refine JQ Jm vM ?_;by_cases he:(nd t (Ju t s j)).kids=[]
   ·rw[if_pos he]at Dr;have DK:=KV (l:=Yb t s l R.got j) (i:=Ju t s j) (by rw[CK];omega);have O6:(gz (Yb t s l R.got j)).length=t.nodes.length:=by rw[QB,CK]
    have Dm:(gz (Yb t s l R.got j)).set (Ju t s j) [.rslc 1 (txz [l.getD j .int]) none]=gz (Yb t s l R.got (j+1)):=by rw[Dr];exact gz_set
    have d3:(((0:Nat):Int) == 0)=true:=rfl;have aU:(iz (nd t (Ju t s j)).kids).length=0:=by rw[Az,he];rfl
    simp only[go_sem,hpR,Qc,Ae,MR,Ja,D9,Nd.cv,aU,d3]
    repeat refine aN ?_
    refine JH [0,0,0,4,0,0,0,0,0,0,0,0,0,0,1,2] Jm vM ?_;simp only[go_sem,Ae,MR,Br,hx]
    repeat refine aN ?_
    refine YI [[S (tyT (l.getD j .int))]] (.inl rfl) rfl rfl rfl rfl ?_;simp only[go_sem,O6,DK,Gi,Gh,GN,Gf,splice,Gr,List.nil_append]
    repeat refine aN ?_
    have aG:(gz (Yb t s l R.got j)).set (Ju t s j) [.rslc 1 [[S (tyT (l.getD j .int))]] none]=gz (Yb t s l R.got (j+1)):=Dm;refine⟨j+1,[0,1,2,3],om,om,rfl,?_,?_⟩
    ·rw[aG];exact KQ (R:={ R with got:=Yb t s l R.got (j+1) }) (X:=[]) rfl
    ·simp only[J2,Gb,Gc,ren,Jl,Jc (JI _)];refine Jt ?_;simp[Km,Kw]
   ·rw[if_neg he]at Dr;have Ey:=G7.2 he;have d3:(((nd t (Ju t s j)).kids.length:Int) == 0)=false:=by rw[beq_eq_false_iff_ne];omega
    simp only[go_sem,hpR,Qc,Ae,MR,Ja,D9,Nd.cv,Az,d3]
    repeat refine aN ?_
    refine⟨j+1,[0,1,2,3],om,om,rfl,?_,?_⟩
    ·rw[Dr];exact KQ (R:={ R with got:=Yb t s l R.got j }) (X:=[]) rfl
    ·simp only[J2,Gb,Gc,ren,Jl,Jc (JI _)];refine Jt ?_;simp[Km,Kw]
  ·have d2:=dfF j n;obtain rfl:j=n:=om;simp only[go_sem,d2];exact .done (wk.refl _)
end
def RS.fin (R:RS)(i:Nat):Option TL->RS
 |none=>R.fail i
 |some []=>R
 |some (a::l)=>R.give i true (a::l)
theorem give_nil(h:Jr R.got i=[]):R.give i true []=R:=by
 have e:R.got.set i []=R.got:=by
  refine GY sM λj h1 h2=>?_
  rw[HY]
  split
  ·rename_i e;subst e;unfold Jr at h;rw[Gq,Gs h2]at h;exact h.symm
  ·rfl
 unfold RS.give;rw[show (true && Qg [])=true from rfl,if_pos rfl,e]
theorem JfD(h:Jr R.got i=[]):R.ans i r=R.fin i r:=by
 rcases r with _|_|⟨a,l⟩
 ·rfl
 ·exact give_nil h
 ·rfl
theorem ans_opt{l0:TL}(h:∀l,r=some l->l0=l):R.ans i r=R.give i r.isSome l0:=by
 cases r with
 |none=>unfold RS.ans RS.give;rw[show (none:Option TL).isSome=false from rfl,GG,if_neg vk]
 |some l=>rw[h l rfl];rfl
theorem fin_ifn:R.fin i (if b=true then some [] else none)=if b=true then R else R.fail i:=by cases b <;> rfl
section
variable(g:GoodT t o)(ht:t.Fit){of:Lx}
include g ht
theorem rmOther(hi:i<t.nodes.length)(hk:30<=(nd t i).k/\(nd t i).k≠41)(Bd:of.length=t.nodes.length)(CW:(nd t i).k=44->of.getD i 0=(m:Int)/\m<t.nodes.length/\(Jr R.got m).length=1)(hl:R.got.length=t.nodes.length)(Bb:Ln R.got)(hf:∀j,Qg (Jr R.got j)=true)(h0:(nd t i).k≠42->Jr R.got i=[]):RMe Ga 64 [.int .i64 (i:Int),.agg (nd t i).cv] t of R (R.fin i (Qd t m R.got i)) (.tup []):=by
 have Ag:=g.many;have Bj:=(JbM ht hi).kidn;have Ae:(iz (nd t i).kids).length=(nd t i).kids.length:=Jf;have Em:(gz R.got).length=t.nodes.length:=by rw[QB,hl]
 have hK:∀j,j<(nd t i).kids.length->(iz (nd t i).kids).getD j []=[.int .i64 ((Ju t i j:Nat):Int)]/\Ju t i j<t.nodes.length/\(gz R.got).getD (Ju t i j) []=[txV (KK t R.got i j)]:=λj hj=>by have h1:=(Jz g hi hj).2.1;refine⟨by rw[JF hj,JC g hi hj],om,?_⟩;rw[XZ g hi hj (JC g hi hj),Gm];exact KV om
 have Mo:∀j,(KK t R.got i j).length<=30/\∀a∈KK t R.got i j,(tyT a).length<=100000:=λj=>by
  unfold KK
  split
  ·exact⟨Bb _,λa ha=>by have:=Yx (hf _) ha;omega⟩
  ·exact⟨sM,λa ha=>by cases ha⟩
 have eK:∀v:Nat,(nd t i).k≠v->(((nd t i).k:Int) == (v:Int))=false:=λv h=>by rw[beq_eq_false_iff_ne];omega
 have rE:=JW (t:=t) (m:=m) (got:=R.got) (i:=i);refine QH (vfS c64_ok λN=>?_);by_cases kk:(nd t i).k=47
 ·skip
  have eA:R.fin i (Qd t m R.got i)=R.give i true [TyX.int]:=by rw[rE,kk,rk_span];rfl
  rw[eA];simp only[go_sem,c64,hpR,Qc,Nd.cv,kk,Gl];refine J5 (t:=t) (of:=of) (R:=R) (X:=[_,.arr 1 [[S [105,110,116]]]]) 1 rfl rfl rfl ?_;simp only[go_sem,Jv,frz,JK,Kn,Gb,Gc,Gd,Gg,Gt,Gr,Gf,Gj,if_true,show ¬(4:Nat)=1+4 by decide,if_false];refine Kon (X:=[_,.dead]) (QJ (l:=[TyX.int]) (els:=[[S [105,110,116]]]) hi hl sM rfl (λ_=>rfl) (λa ha=>by rw[Gp.1 ha];decide)) ?_;simp only[go_sem];exact .outR (wk.refl _) rfl
 by_cases kk:(nd t i).k=64
 ·skip
  have A9:=Xu g hi (.inr (.inr (.inr om)));obtain⟨w1,w2,w3,w4⟩:=Yp g hi (.inr (.inl om));have hT:=YO g ht (Ju t i 0) om w3 w4;have UE:=X0 (t:=t) (i:=Ju t i 0) om;obtain⟨q1,q2,q3⟩:=hK 0 om;have Di:=YN (of:=of) (b:=true) (l:=[tyN t (Ju t i 0)]) hi hl sM (λa ha=>by rw[Gp.1 ha];omega);have eA:R.fin i (Qd t m R.got i)=R.give i true [tyN t (Ju t i 0)]:=by rw[rE,kk,rk_param];rfl
  rw[eA];simp only[go_sem,c64,hpR,Qc,Nd.cv,kk,Gl];refine J5 (t:=t) (of:=of) (R:=R) (X:=[.arr 5 [[.int .u8 64,S (nd t i).text,.int .i64 (nd t i).n,.rslc 1 (iz (nd t i).kids) none,.int .i64 (nd t i).pl]]]) 0 rfl rfl rfl ?_;simp only[go_sem,Jv,frz,JK,Kn,Gb,Gc,Gd,Gg,hpR,Qc,show ¬(0:Nat)=0+4 by decide,if_false,if_true,Nd.cv,Gn,Gf,Gj];refine JH [0,0,0,0,0,4,0,0,0,0,0,0,2] Jm vM ?_;simp only[go_sem,Ae,q1]
  repeat refine aN ?_
  refine Jdx (.inl rfl) hT ?_;simp only[go_sem];refine YI [[S (tyT (tyN t (Ju t i 0)))]] (.inl rfl) rfl rfl rfl rfl ?_;simp only[go_sem];refine JaB (.inl rfl) (Di.on (X:=[.dead]) rfl rfl) ?_;simp only[go_sem];exact .outR (wk.refl _) rfl
 by_cases kk:(nd t i).k=43
 ·skip
  have A9:=Xu g hi (.inr (.inl kk));obtain⟨q1,q2,q3⟩:=hK 0 om;have Br:(txz (KK t R.got i 0)).length=(KK t R.got i 0).length:=KL;have eB:(((KK t R.got i 0).length:Int) == 1)=((KK t R.got i 0).length == 1):=by rw[GR,beq_iff_eq,beq_iff_eq];omega
  have Di:=λb=>YN (of:=of) (b:=b) (l:=KK t R.got i 0) hi hl (by have:=(Mo 0).1;omega) (Mo 0).2
  have eA:R.fin i (Qd t m R.got i)=R.give i ((KK t R.got i 0).length == 1) (KK t R.got i 0):=by rw[<-JfD (h0 om),rE,kk,<-Yl];simp[J9]
  rw[eA];simp only[go_sem,c64,hpR,Qc,Nd.cv,kk,Gl];refine J5 (t:=t) (of:=of) (R:=R) (X:=[.arr 5 [[.int .u8 43,S (nd t i).text,.int .i64 (nd t i).n,.rslc 1 (iz (nd t i).kids) none,.int .i64 (nd t i).pl]]]) 0 rfl rfl rfl ?_;simp only[go_sem,Jv,frz,JK,Kn,Gb,Gc,Gd,Gg,hpR,Qc,show ¬(0:Nat)=0+4 by decide,if_false,if_true,Nd.cv,Gn,Gf,Gj];refine JH [0,0,0,0,0,4,0,0,0,0,1,1,0,0,0,0,0,4,0,0,0,0,1,1,2] Jm vM ?_;simp only[go_sem,Ae,q1,Em,q3,txV,Br,eB]
  repeat refine aN ?_
  refine JaB (.inl rfl) ((Di _).on (X:=[.dead]) rfl rfl) ?_;simp only[go_sem];exact .outR (wk.refl _) rfl
 by_cases kk:(nd t i).k=42
 ·skip
  by_cases hn:(nd t i).kids=[]
  ·skip
   have eA:R.fin i (Qd t m R.got i)=R:=by rw[rE,kk,Jdd,if_pos hn];rfl
   rw[eA];have d0:((0:Int)<((nd t i).kids.length:Int))=False:=eq_false (by rw[hn];decide);simp only[go_sem,c64,hpR,Qc,Nd.cv,kk,Gl,Ae,d0];exact .outR (X:=[_]) (wk.refl _) rfl
  have A9:=G7.2 hn;have d0:((0:Int)<((nd t i).kids.length:Int))=True:=J4;obtain⟨w1,w2,w3,w4⟩:=Yp g hi (.inr (.inr ⟨kk,hn⟩));have hT:=YO g ht (Ju t i 0) om w3 w4;have UE:=X0 (t:=t) (i:=Ju t i 0) om;obtain⟨q1,q2,q3⟩:=hK 0 om;have Di:=YN (of:=of) (b:=true) (l:=[tyN t (Ju t i 0)]) hi hl sM (λa ha=>by rw[Gp.1 ha];omega);have eA:R.fin i (Qd t m R.got i)=R.give i true [tyN t (Ju t i 0)]:=by rw[rE,kk,Jdd,if_neg hn];rfl
  rw[eA];simp only[go_sem,c64,hpR,Qc,Nd.cv,kk,Gl,Ae,d0];refine J5 (t:=t) (of:=of) (R:=R) (X:=[.arr 5 [[.int .u8 42,S (nd t i).text,.int .i64 (nd t i).n,.rslc 1 (iz (nd t i).kids) none,.int .i64 (nd t i).pl]]]) 0 rfl rfl rfl ?_;simp only[go_sem,Jv,frz,JK,Kn,Gb,Gc,Gd,Gg,hpR,Qc,show ¬(0:Nat)=0+4 by decide,if_false,if_true,Nd.cv,Gn,Gf,Gj];refine JH [0,0,0,0,0,4,0,0,0,0,0,0,2] Jm vM ?_;simp only[go_sem,Ae,q1]
  repeat refine aN ?_
  refine Jdx (.inl rfl) hT ?_;simp only[go_sem];refine YI [[S (tyT (tyN t (Ju t i 0)))]] (.inl rfl) rfl rfl rfl rfl ?_;simp only[go_sem];refine JaB (.inl rfl) (Di.on (X:=[.dead]) rfl rfl) ?_;simp only[go_sem];exact .outR (wk.refl _) rfl
 by_cases kk:(nd t i).k=44
 ·skip
  obtain⟨m1,m2,m3⟩:=CW kk;have A9:=Xu g hi (.inr (.inr (.inl kk)));obtain⟨q1,q2,q3⟩:=hK 0 om;have OM:(iz of).length=t.nodes.length:=by rw[Jf,Bd]
  have Z6:(iz of).getD i []=[.int .i64 (m:Int)]:=by rw[JF om,m1]
  have Oj:=KV (l:=R.got) (i:=m) om;have Uf:=Jcw (KK t R.got i 0) (Jr R.got m) (by have:=(Mo 0).1;omega);have eA:R.fin i (Qd t m R.got i)=if (KK t R.got i 0 == Jr R.got m)=true then R else R.fail i:=by
   rw[rE,kk,<-fin_ifn]
   congr 1
   by_cases h:KK t R.got i 0=Jr R.got m
   ·simp[J9,h,m3]
   ·simp[J9,h]
  rw[eA];simp only[go_sem,c64,hpR,Qc,Nd.cv,kk,Gl];refine J5 (t:=t) (of:=of) (R:=R) (X:=[.arr 5 [[.int .u8 44,S (nd t i).text,.int .i64 (nd t i).n,.rslc 1 (iz (nd t i).kids) none,.int .i64 (nd t i).pl]]]) 0 rfl rfl rfl ?_;simp only[go_sem,Jv,frz,JK,Kn,Gb,Gc,Gd,Gg,hpR,Qc,show ¬(0:Nat)=0+4 by decide,if_false,if_true,Nd.cv,Gn,Gf,Gj];refine JH [0,0,0,4,0,0,0,0,1,1,0,0,0,4,0,0,0,4,0,0,0,1,1,0,0] Jm vM ?_;simp only[go_sem,Ae,q1,Em,q3,OM,Z6,Oj]
  repeat refine aN ?_
  refine Jdx (.inl rfl) Uf ?_
  cases hb:KK t R.got i 0 == Jr R.got m with
  |true=>rw[if_pos rfl];simp only[go_sem,Gv];exact .outR (X:=[.dead]) (wk.refl _) rfl
  |false=>rw[if_neg vk];simp only[go_sem,Gw];refine Kon (R:=R) (X:=[.dead]) Jcu ?_;simp only[go_sem];exact .outR (wk.refl _) rfl
 by_cases kk:(nd t i).k=40
 ·skip
  obtain⟨n,n1,n2,_⟩:=JgF g hi kk;change (nd t i).n=n at n1;change n<=(nd t i).kids.length at n2;have AU:(iz ((nd t i).kids.drop n)).take ((nd t i).kids.length-n)=iz ((nd t i).kids.drop n):=GH (by rw[Jf,HV];omega);obtain⟨l0,z1,⟨z2,z3⟩,z4⟩:=rmList (t:=t) (of:=of) (R:=R) (ks:=(nd t i).kids.drop n) hl (λk hk=>by have:=g.kid hi (List.mem_of_mem_drop hk);omega) (by rw[HV];omega) Bb hf;have hr:Qd t m R.got i=gvn R.got ((nd t i).kids.drop n):=by rw[rE,kk,rk_block,Jee g hi,n1,Gm]
  have Di:=λb=>YN (of:=of) (b:=b) hi hl z2 z3
  rw[<-JfD (h0 om),hr,ans_opt z1];clear hr z1;simp only[go_sem,c64,hpR,Qc,Nd.cv,kk,n1,Gl,Ae]
  repeat refine aN ?_
  refine J5 (t:=t) (of:=of) (R:=R) (X:=[.arr 5 [[.int .u8 40,S (nd t i).text,.int .i64 (n:Int),.rslc 1 (iz (nd t i).kids) none,.int .i64 (nd t i).pl]]]) 0 rfl rfl rfl ?_;simp only[go_sem,Jv,frz,JK,Kn,Gb,Gc,Gd,Gg,hpR,Qc,show ¬(0:Nat)=0+4 by decide,if_false,if_true,Nd.cv,Gn,Gf,G8,GI,Jh0,AU,Gj];refine Kon (X:=[.dead]) z4 ?_;simp only[go_sem];refine Kon (X:=[.dead]) (Di _) ?_;simp only[go_sem];exact .outR (wk.refl _) rfl
 by_cases kk:(nd t i).k=45
 ·skip
  have AU:True:=trivial;obtain⟨l0,z1,⟨z2,z3⟩,z4⟩:=rmList (t:=t) (of:=of) (R:=R) (ks:=(nd t i).kids) hl (λk hk=>by have:=g.kid hi (hk);omega) om Bb hf;have hr:Qd t m R.got i=gvn R.got ((nd t i).kids):=by have:=Jee g (got:=R.got) (n:=0) hi;rw[Gf]at this;rw[rE,kk,rk_give,this];simp only[G8,Gj]
  have Di:=λb=>YN (of:=of) (b:=b) hi hl z2 z3
  rw[<-JfD (h0 om),hr,ans_opt z1];clear hr z1;simp only[go_sem,c64,hpR,Qc,Nd.cv,kk,Gl,Ae]
  repeat refine aN ?_
  refine J5 (t:=t) (of:=of) (R:=R) (X:=[.arr 5 [[.int .u8 45,S (nd t i).text,.int .i64 (nd t i).n,.rslc 1 (iz (nd t i).kids) none,.int .i64 (nd t i).pl]]]) 0 rfl rfl rfl ?_;have Cg:(iz (nd t i).kids).take (nd t i).kids.length=iz (nd t i).kids:=by rw[<-Ae];exact GI
  simp only[go_sem,Jv,frz,JK,Kn,Gb,Gc,Gd,Gg,hpR,Qc,show ¬(0:Nat)=0+4 by decide,if_false,if_true,Nd.cv,Gn,Gf,G8,GI,Cg,Gj];refine Kon (X:=[.dead]) z4 ?_;simp only[go_sem];refine Kon (X:=[.dead]) (Di _) ?_;simp only[go_sem];exact .outR (wk.refl _) rfl
 by_cases kk:(nd t i).k=65
 ·skip
  have bv:=Jd6 g ht hi kk;have hd:=def_res g hi kk;have Io:=Yn g ht hi om;obtain⟨q1,q2,q3⟩:=hK ((nd t i).kids.length-1) om;have Ob:Ji t i=Ju t i ((nd t i).kids.length-1):=rfl;rw[Ob]at Io;have Uf:=Jcw (KK t R.got i ((nd t i).kids.length-1)) (XH t i) (by have:=(Mo ((nd t i).kids.length-1)).1;omega);have eA:R.fin i (Qd t m R.got i)=if (KK t R.got i ((nd t i).kids.length-1) == XH t i)=true then R else R.fail i:=by rw[rE,kk,rk_def,fin_ifn]
  rw[eA];simp only[go_sem,c64,hpR,Qc,Nd.cv,kk,Gl];refine J5 (t:=t) (of:=of) (R:=R) (X:=[.arr 5 [[.int .u8 65,S (nd t i).text,.int .i64 (nd t i).n,.rslc 1 (iz (nd t i).kids) none,.int .i64 (nd t i).pl]]]) 0 rfl rfl rfl ?_;simp only[go_sem,Jv,frz,JK,Kn,Gb,Gc,Gd,Gg,hpR,Qc,show ¬(0:Nat)=0+4 by decide,if_false,if_true,Nd.cv,Gn,Gf,Gj];refine JU bv ?_;simp only[go_sem];refine JH [0,0,0,4,0,0,0,4,0,0,1,1,0,0,0] Jm vM ?_;simp only[go_sem];refine Jdx (.inl rfl) Io ?_;simp only[go_sem,Em,q3]
  repeat refine aN ?_
  refine Jdx (.inl rfl) Uf ?_
  cases hb:KK t R.got i ((nd t i).kids.length-1) == XH t i with
  |true=>rw[if_pos rfl];simp only[go_sem,Gv];exact .outR (X:=[.dead]) (wk.refl _) rfl
  |false=>rw[if_neg vk];simp only[go_sem,Gw];refine Kon (R:=R) (X:=[.dead]) Jcu ?_;simp only[go_sem];exact .outR (wk.refl _) rfl
 have e47:=eK 47 om;have e64:=eK 64 om;have e42:=eK 42 om;have e43:=eK 43 om;have e44:=eK 44 om;have e45:=eK 45 om;have e40:=eK 40 om;have e41:=eK 41 om;have e65:=eK 65 om;simp only[Gl]at e47 e64 e42 e43 e44 e45 e40 e41 e65;have eA:R.fin i (Qd t m R.got i)=R:=by rw[rE,rk_else om om];rfl
 rw[eA];simp only[go_sem,c64,hpR,Qc,Nd.cv,e47,e64,e42,e43,e44,e45,e40,e41,e65];exact .outR (X:=[_]) (wk.refl _) rfl
end
def RS.sets (t:Tr)(s:Nat)(R:RS):RS:=if (R.binds t s).bad<0 then(if XF t s (Jr (R.binds t s).got (Ji t s))=true then R.binds t s else(R.binds t s).fail s) else R.binds t s
section
variable(g:GoodT t o)(ht:t.Fit){of:Lx}
include g ht
theorem rmSet {s:Nat}(hs:s<t.nodes.length)(hk:(nd t s).k=41)(hl:R.got.length=t.nodes.length)(Bb:Ln R.got)(hT:∀k,k<nB t s->(nd t (Ju t s k)).kids≠[]->Jr R.got (Ju t s k)=[tyN t (Ju t (Ju t s k) 0)]):RMe Ga 64 [.int .i64 (s:Int),.agg (nd t s).cv] t of R (R.sets t s) (.tup []):=by
 have Ag:=g.many;have Bj:=(JbM ht hs).kidn;have Ae:(iz (nd t s).kids).length=(nd t s).kids.length:=Jf;obtain⟨n,n1,n2,n3,n4⟩:=Yu g hs hk;change (nd t s).n=n at n1;change (nd t s).kids.length=n+1 at n2;have Py:nB t s=n:=by unfold nB;rw[n1];rfl
 rw[Py]at hT;obtain⟨_,_,_,hL⟩:=KA g hs hk;have Ob:Ji t s=Ju t s n:=by unfold Ji Ju;rw[n2];rfl
 have ay:∀j,j<n+1->(iz (nd t s).kids).getD j []=[.int .i64 ((Ju t s j:Nat):Int)]/\Ju t s j<t.nodes.length:=λj hj=>by have h1:=(Jz g hs (i:=j) om).2.1;exact⟨by rw[JF om,JC g hs om],om⟩
 have DW:∀k j,k<n+1->j<n+1->Ju t s k=Ju t s j->k=j:=λk j h1 h2 h=>by have h3:=(Jgj g hs);have e1:=JC g hs (j:=k) om;have e2:=JC g hs (j:=j) om;rw[h]at e1;rw[Gq,Gs (show k<(nd t s).kids.length by omega)]at e1;rw[Gq,Gs (show j<(nd t s).kids.length by omega)]at e2;exact(List.getElem_inj h3).1 (show (nd t s).kids[k]=(nd t s).kids[j] from(show (nd t s).kids[k]=_ from e1).trans (show (nd t s).kids[j]=_ from e2).symm)
 have hB:=rmBinds g ht (of:=of) hs hk hl Bb;generalize Ao:(λk=>(nd t (Ju t s k)).kids.isEmpty || tyN t (Ju t (Ju t s k) 0) == (Jr (R.binds t s).got (Ji t s)).getD k .int)=ok;have Cs:XF t s (Jr (R.binds t s).got (Ji t s))=(Gx n).all ok:=by unfold XF;rw[n1,Gm,<-Ao]
 have Cf:(R.binds t s).bad<0->∃l,(R.binds t s).got.length=t.nodes.length/\Jr (R.binds t s).got (Ju t s n)=l/\l.length=n/\∀k,k<n->∃x,Jr (R.binds t s).got (Ju t s k)=[x]/\(tyT x == tyT (l.getD k .int))=ok k:=λhb=>by
  have e:¬0<=R.bad/\(Jr R.got (Ji t s)).length=n/\R.binds t s = { R with got:=Yb t s (Jr R.got (Ji t s)) R.got n }:=by
   unfold RS.binds at hb|-;rw[n1,Gm]at hb|-;by_cases h1:0<=R.bad
   ·rw[if_pos h1]at hb;omega
   ·rw[if_neg h1]at hb|-;by_cases h2:(Jr R.got (Ji t s)).length=n
    ·rw[if_pos h2];exact⟨h1,h2,rfl⟩
    ·rw[if_neg h2]at hb;unfold RS.fail at hb;rw[iP7]at hb;simp only at hb;omega
  obtain⟨b1,b2,b3⟩:=e;have Dx:Jr (R.binds t s).got (Ju t s n)=Jr R.got (Ji t s):=by
   rw[b3,<-Ob];refine JbF n λk Aq _ h=>?_
   rw[Ob]at h;have:=DW k n om om h;omega
  refine⟨Jr R.got (Ji t s),by rw[b3];simp only;rw[Yw];exact hl,Dx,b2,λk Aq=>?_⟩;rw[<-Ao];simp only;rw[Ob,Dx,<-Ob];by_cases he:(nd t (Ju t s k)).kids=[]
  ·have h1:=Jhs (t:=t) (s:=s) (l:=Jr R.got (Ji t s)) (got:=R.got) (λk _ h=>by rw[Py]at h;have:=(ay k om).2;omega) (λk j h1 h2 h=>by rw[Py]at h1 h2;exact DW k j om om h) n om k Aq he;refine⟨_,by rw[b3];exact h1,?_⟩;rw[he];simp
  ·have h1:Jr (R.binds t s).got (Ju t s k)=Jr R.got (Ju t s k):=by
    rw[b3];refine JbF n λk' Il Et h=>?_
    have:=DW k' k om om h;subst this;exact he Et
   refine⟨_,h1.trans (hT k Aq he),?_⟩;rw[JdB];have:(nd t (Ju t s k)).kids.isEmpty=false:=by cases h:(nd t (Ju t s k)).kids <;> simp_all
   rw[this,H7]
 have hG:R.sets t s=if (R.binds t s).bad<0 then(if (Gx n).all ok=true then R.binds t s else(R.binds t s).fail s) else R.binds t s:=by unfold RS.sets;rw[Cs]
 rw[hG];clear hG Cs Ao;generalize R.binds t s=R1 at *;have eK:∀v:Nat,(nd t s).k≠v->(((nd t s).k:Int) == (v:Int))=false:=λv h=>by rw[beq_eq_false_iff_ne];omega
 refine QH (vfS c64_ok λN=>?_);simp only[go_sem,c64,hpR,Qc,Nd.cv,hk,n1,Gl];refine J5 (t:=t) (of:=of) (R:=R) (X:=[.arr 5 [[.int .u8 41,S (nd t s).text,.int .i64 (n:Int),.rslc 1 (iz (nd t s).kids) none,.int .i64 (nd t s).pl]]]) 0 rfl rfl rfl ?_;simp only[go_sem,Jv,frz,JK,Kn,Gb,Gc,Gd,show ¬(0:Nat)=0+4 by decide,if_false,if_true,Gn,Gf,Gj];refine Kon (R:=R) (R':=R1) (X:=[.dead]) hB ?_;simp only[go_sem];refine Js (I:=λσ:Nat×Bool=>σ.1<=n/\(σ.2=false->∀j,j<σ.1->ok j=true)/\(σ.2=true->R1.bad<0/\(Gx n).all ok=false)) (inv:=λσ=>mkT 212 [(0,.ptr 0 0 0),(1,.int .i64 (s:Int)),(5,.rptr [.int .u8 41,S (nd t s).text,.int .i64 (n:Int),.rslc 1 (iz (nd t s).kids) none,.int .i64 (nd t s).pl]),(9,.int .i64 (σ.1:Int))]) (hp:=λσ=>hpR t of (if σ.2=true then R1.fail s else R1) []) (μ:=λσ=>n-σ.1) (0,false) [0,1,2,3] ⟨sM,λ_ j h=>by simp only at h;omega,λh=>by cases h⟩ rfl ?_ ?_ ?_
 ·simp only[J2,Gb,Gc,ren,Jl];refine Jt ?_;simp[Km,Kw]
 ·exact KQ (X:=[.dead]) rfl
 ·rintro⟨k,b⟩ ⟨h1,h2,h3⟩
  dsimp only at h1 h2 h3
  cases b with
  |true=>
   obtain⟨Dg,Aj⟩:=h3 rfl;have iL:(R1.fail s).bad=(s:Int):=by unfold RS.fail;rw[if_pos Dg]
   have dB:((s:Int)<0)=False:=JS;rw[if_pos Dg,if_neg (by rw[Aj];decide)];by_cases Ab:k<n
   ·have d1:=dtT k n;simp only[go_sem,d1,hpR,Qc,iL,dB,if_true];exact .done (wk.refl _)
   ·have d1:=dfF k n;simp only[go_sem,d1,if_true];exact .done (wk.refl _)
  |false=>
   by_cases Dg:R1.bad<0
   ·rw[if_pos Dg];obtain⟨l,q1,q2,q3,q4⟩:=Cf Dg;have dB:(R1.bad<0)=True:=eq_true Dg;by_cases Ab:k<n
    ·have d1:=dtT k n;obtain⟨x,x1,x2⟩:=q4 k Ab;obtain⟨k1,k2⟩:=ay k om;obtain⟨l1,l2⟩:=ay n om;have AO:(gz R1.got).length=t.nodes.length:=by rw[QB,q1]
     have DK:(gz R1.got).getD (Ju t s k) []=[txV [x]]:=by rw[KV om,x1]
     have PG:(gz R1.got).getD (Ju t s n) []=[txV l]:=by rw[KV om,q2]
     have z1:(txz [x]).length=1:=rfl;have z2:(txz [x]).getD 0 []=[S (tyT x)]:=rfl;have z3:(txz l).length=n:=by rw[KL,q3]
     have z4:(txz l).getD k []=[S (tyT (l.getD k .int))]:=X3 om;simp only[go_sem,d1,hpR,Qc,dB,GM,if_false];refine JQ Jm vM ?_
     cases hq:ok k with
     |true=>
      rw[hq]at x2;simp only[go_sem,Ae,n2,AO,k1,l1,DK,PG,txV,z1,z2,z3,z4,x2,Gv]
      repeat refine aN ?_
      refine⟨(k+1,false),[0,1,2,3],⟨by simp only;omega,λ_ j hj=>(by rcases GV j k with h|h;exact h2 rfl j h;rw[show j=k by omega];exact hq),λh=>by cases h⟩,by simp only;omega,rfl,KQ (R:=R1) (X:=[]) rfl,?_⟩;simp only[J2,Gb,Gc,ren,Jl];refine Jt ?_;simp[Km,Kw]
     |false=>
      rw[hq]at x2;simp only[go_sem,Ae,n2,AO,k1,l1,DK,PG,txV,z1,z2,z3,z4,x2,Gw]
      repeat refine aN ?_
      refine Kon (R:=R1) (X:=[]) Jcu ?_;simp only[go_sem];refine⟨Jg,(k+1,true),[0,1,2,3],⟨by simp only;omega,(λh=>by cases h),λ_=>by rw[GJ];intro h;rw[GA]at h;rw[h k (Gz.2 Ab)]at hq;cases hq⟩,by simp only;omega,rfl,KQ (R:=R1.fail s) (X:=[]) rfl,?_⟩;simp only[J2,Gb,Gc,ren,Jl];refine Jt ?_;simp[Km,Kw]
    ·have d1:=dfF k n;have Aj:(Gx n).all ok=true:=by rw[GA];exact λj hj=>h2 rfl j (by have:=Gz.1 hj;omega)
     rw[if_pos Aj];simp only[go_sem,d1,GM,if_false];exact .done (wk.refl _)
   ·rw[if_neg Dg];have dB:(R1.bad<0)=False:=eq_false Dg;by_cases Ab:k<n
    ·have d1:=dtT k n;simp only[go_sem,d1,hpR,Qc,dB,GM,if_false];exact .done (wk.refl _)
    ·have d1:=dfF k n;simp only[go_sem,d1,GM,if_false];exact .done (wk.refl _)
end
theorem chain_ex{P:Nat->α->Prop}{Q:Nat->α->α->Prop}{mm:Nat}{x0:α}(h0:P 0 x0)(hs:∀j x,j<mm->P j x->∃y,P (j+1) y/\Q j x y):∃D:Nat->α,D 0=x0/\(∀j,j<=mm->P j (D j))/\∀j,j<mm->Q j (D j) (D (j+1)):=by
 induction mm with
 |zero=>exact⟨λ_=>x0,rfl,λj hj=>by rw[Nat.le_zero.1 hj];exact h0,λj hj=>om⟩
 |succ mm ih=>
  obtain⟨D,d1,d2,d3⟩:=ih λj x hj hp=>hs j x om hp
  obtain⟨y,y1,y2⟩:=hs mm (D mm) om (d2 mm (GK _));refine⟨λj=>if j<=mm then D j else y,by simp[d1],λj hj=>?_,λj hj=>?_⟩
  ·by_cases h:j<=mm
   ·simp only[h,if_true];exact d2 j h
   ·rw[show j=mm+1 by omega];simp only[show ¬mm+1<=mm by omega,if_false];exact y1
  ·by_cases h:j<mm
   ·simp only[show j<=mm by omega,show j+1<=mm by omega,if_true];exact d3 j h
   ·rw[show j=mm by omega];simp only[GK,show ¬mm+1<=mm by omega,if_true,if_false];exact y2
def DnOk (t:Tr)(S:FS)(d:LK):Prop:=d.length=t.nodes.length/\(S.bad=none->d=S.dn)
def RoW (t:Tr)(o:Lx)(f:Nat):Prop:=∀S i d,FI t S->FM t o S->Ln S.got->i<t.nodes.length->JfO t o S i->uf t S<f->DnOk t S d->∃d',DnOk t (doF t o (mnF t o) f S i) d'/\RMe Ga 34 [.int .i64 (i:Int)] t (ofL t o) (rsO t.nodes.length S d) (rsO t.nodes.length (doF t o (mnF t o) f S i) d') (.tup [])
theorem settle_rs{s:Nat}{S:FS}(hs:s<n):(rsO n S d).binds t s=rsO n (if S.bad.isSome=true then S else JR t s S) d:=by
 obtain⟨got,dn,fd,fg,bad⟩:=S
 cases bad with
 |some b=>simp[RS.binds,rsO,JdU]
 |none=>
  by_cases hl:(Jr got (Ji t s)).length=(nd t s).n.toNat
  ·simp[RS.binds,rsO,JdU,JR,hl,fgL]
  ·simp[RS.binds,rsO,JdU,JR,hl,fgL,FS.fail,RS.fail]
theorem settle_dn{s:Nat}{S:FS}:(JR t s S).dn=S.dn/\((JR t s S).bad=none->S.bad=none)/\(JR t s S).fg=S.fg:=by
 unfold JR;simp only
 split
 ·exact⟨rfl,λh=>h,rfl⟩
 ·unfold FS.fail
  split
  ·exact⟨rfl,λh=>h,rfl⟩
  ·exact⟨rfl,(λh=>by cases h),rfl⟩
section
variable(g:GoodT t o)(ht:t.Fit)
include g ht
theorem rmFind (hE:(XY t o).2=0)(ih:RoW t o f){S:FS}{s:Nat}(hI:FI t S)(hM:FM t o S)(Bb:Ln S.got)(hi:i<t.nodes.length)(hP:JfO t o S i)(hu:uf t S<f+1)(hs:s<t.nodes.length)(Bw:(nd t s).k=41)(hm:(m:Int)∈(nd t s).kids)(BX:(nd t m).k=42)(AQ:inS t o (m:Int) i)(hb:J6 S.fg s=false)(hd:DnOk t S d):∃d',DnOk t (Qn t o (doF t o (mnF t o) f) s i S) d'/\RMe Ga 156 [.int .i64 (s:Int)] t (ofL t o) (rsO t.nodes.length S d) (rsO t.nodes.length (Qn t o (doF t o (mnF t o) f) s i S) d') (.tup []):=by
 have Ag:=g.many;obtain⟨_,_,_,hL⟩:=KA g hs Bw;generalize DL:({ S with fg:=Xz s true S.fg }:FS)=S0;obtain⟨a,ha⟩:∃a:Nat,fs o ((Ji t s:Nat):Int)=a:=⟨(fs o ((Ji t s:Nat):Int)).toNat,by have:=(JhN g (a:=Ji t s) om).1;omega⟩;have iY:a<=Ji t s:=by have:=(JhN g (a:=Ji t s) om).2;omega
 generalize Du:Ji t s+1-a=mm;have Fx:FI t S0:=by subst DL;exact⟨hI.gl,hI.dl,hI.emp,hI.unf,hI.fnd,hI.fine,hI.ini,hI.typ⟩
 have bF:FM t o S0:=by subst DL;exact hM
 have Mm:Ln S0.got:=by subst DL;exact Bb
 have I6:uf t S0<f:=by subst DL;have:=Jeq hs hb;omega
 have Pi:=JcL g hi hP hs Bw hm BX AQ ha;rw[DL,Du]at Pi;have Eg:=JaE (Jaw g hE f) Fx bF I6 (a:=a) (m:=mm) om Pi;have EN:DnOk t S0 d:=by subst DL;exact hd
 obtain⟨D,D0,D1,D2⟩:=chain_ex (mm:=mm) (x0:=d) (P:=λj x=>DnOk t ((Kr a j).foldl (doF t o (mnF t o) f) S0) x) (Q:=λj x y=>RMe Ga 34 [.int .i64 ((a+j:Nat):Int)] t (ofL t o) (rsO t.nodes.length ((Kr a j).foldl (doF t o (mnF t o) f) S0) x) (rsO t.nodes.length ((Kr a (j+1)).foldl (doF t o (mnF t o) f) S0) y) (.tup [])) EN λj x hj hx=>by
  obtain⟨p1,p2,p3,p4⟩:=Eg j om;have Im:=Jb3 ht (o:=o) Mm f (Kr a j);have BH:(Kr a (j+1)).foldl (doF t o (mnF t o) f) S0=doF t o (mnF t o) f ((Kr a j).foldl (doF t o (mnF t o) f) S0) (a+j):=by rw[YK,Hz];rfl
  rw[BH];exact ih _ (a+j) x p1 p2 Im om (Pi _ j p3 hj p4) (by rw[uf_eq p3];exact I6) hx
 have eY:=D1 mm (GK _);obtain⟨p1,p2,p3,p4⟩:=Eg mm (GK _);have jw:=Jb3 ht (o:=o) Mm f (Kr a mm);have e:Qn t o (doF t o (mnF t o) f) s i S=(λS1=>let S2:=if S1.bad.isSome then S1 else JR t s S1;{ S2 with fg:=Xz s false S2.fg }) ((Kr a mm).foldl (doF t o (mnF t o) f) S0):=by unfold Qn;rw[if_neg (by rw[hb];decide)];simp only[ha,Gm,Du,DL]
 rw[e];clear e;generalize ji:(Kr a mm).foldl (doF t o (mnF t o) f) S0=S1 at *;have eR:rsO t.nodes.length ((λS1:FS=>let S2:=if S1.bad.isSome then S1 else JR t s S1;({ S2 with fg:=Xz s false S2.fg }:FS)) S1) (D mm)=(rsO t.nodes.length { S1 with fg:=Xz s false S1.fg } (D mm)).binds t s:=by
  rw[settle_rs hs];obtain⟨got,dn,fd,fg,bad⟩:=S1
  cases bad with
  |some b=>rfl
  |none=>
   by_cases hl:(Jr got (Ji t s)).length=(nd t s).n.toNat
   ·simp[rsO,JR,hl]
   ·simp[rsO,JR,hl,FS.fail]
 refine⟨D mm,⟨eY.1,λh=>?_⟩,?_⟩
 ·simp only at h|-
  cases Dg:S1.bad with
  |some b=>simp[Dg]at h
  |none=>simp only[Dg,Ho,GM,if_false]at h|-;rw[settle_dn.1];exact eY.2 Dg
 rw[eR];have hB:=rmBinds g ht (of:=ofL t o) (R:=rsO t.nodes.length { S1 with fg:=Xz s false S1.fg } (D mm)) hs Bw p1.gl jw;have Io:=Yn g ht hs om;have eQ:=Jhq t (ord_take g) (GK _) (Ji t s) om;rw[ha]at eQ;generalize (rsO t.nodes.length { S1 with fg:=Xz s false S1.fg } (D mm)).binds t s=RE at *;have EM:∀Z:FS,(bqz (fgL t.nodes.length Z)).length=t.nodes.length:=λZ=>by rw[Jci,JhV]
 have EB:∀(Z:FS) (b:Bool),(bqz (fgL t.nodes.length Z)).set s [.bool b]=bqz (fgL t.nodes.length { Z with fg:=Xz s b Z.fg }):=λZ b=>by rw[Jh4,fgL_set]
 have En:∀Z:FS,(bqz (fgL t.nodes.length Z)).getD s []=[.bool ((fgL t.nodes.length Z).getD s false)]:=λZ=>Jcj (by rw[JhV];exact hs)
 refine QH (vfS c156_ok λN=>?_);simp only[go_sem,c156,hpR,Qc,rsO,EM,En,GN,Gf,Gi,Gh,EB,Gd,Gg]
 repeat refine aN ?_
 refine JU Io ?_;simp only[go_sem];refine JU eQ ?_;simp only[go_sem];have BO:hpR t (ofL t o) (rsO t.nodes.length S0 d) []=[.arr 7 [Qc t (ofL t o) (JdU S.bad)],.arr 1 (gz S.got),.arr 1 (bqz d),.arr 1 (bqz (fgL t.nodes.length { S with fg:=Xz s true S.fg }))]:=by subst DL;rfl
 refine JaC BO.symm ?_;subst D0;simp only[go_sem];refine Js (I:=λj:Nat=>j<=mm) (inv:=λj=>mkT 41 [(0,.ptr 0 0 0),(1,.int .i64 (s:Int)),(4,.int .i64 ((Ji t s:Nat):Int)),(5,.int .i64 ((a+j:Nat):Int))]) (hp:=λj=>hpR t (ofL t o) (rsO t.nodes.length ((Kr a j).foldl (doF t o (mnF t o) f) S0) (D j)) []) (μ:=λj=>mm-j) 0 [0,1,2,3] om rfl ?_ ?_ ?_
 ·simp only[J2,Gb,Gc,ren,Jl];refine Jt ?_;simp[Km,Kw]
 ·exact KQ (X:=[]) rfl
 ·intro j hj;by_cases Ab:j<mm
  ·have d2:(((a+j:Nat):Int)<=((Ji t s:Nat):Int))=True:=J4;simp only[go_sem,d2];refine Kon (X:=[]) (D2 j Ab) ?_;simp only[go_sem];refine⟨Jg,j+1,[0,1,2,3],om,om,rfl,KQ (X:=[]) rfl,?_⟩;simp only[J2,Gb,Gc,ren,Jl];refine Jt ?_;simp[Km,Kw]
   try omega
  ·have d2:(((a+j:Nat):Int)<=((Ji t s:Nat):Int))=False:=JS;obtain rfl:j=mm:=om;rw[ji];simp only[go_sem,d2,hpR,Qc,rsO,EM,En,GN,Gf,Gi,Gh,EB,Gd,Gg]
   repeat refine aN ?_
   refine Kon (R:=rsO t.nodes.length { S1 with fg:=Xz s false S1.fg } (D j)) (X:=[]) hB ?_;simp only[go_sem];exact .done (wk.refl _)
end
theorem rs_fail {S:FS}:(rsO n S d).fail i=rsO n (S.fail i) d:=by
 obtain⟨got,dn,fd,fg,bad⟩:=S
 cases bad with
 |none=>simp[rsO,RS.fail,FS.fail,JdU,fgL]
 |some b=>
  have:¬(b:Int)<0:=om;simp[rsO,RS.fail,FS.fail,JdU,this]
theorem rs_fin {S:FS}(hb:S.bad=none):(rsO n S d).fin i r=rsO n (S.fin i r) d:=by
 obtain⟨got,dn,fd,fg,bad⟩:=S;simp only at hb;subst hb;rcases r with _|_|⟨a,l⟩
 ·exact rs_fail
 ·simp[RS.fin,FS.fin,rsO,Qg,fgL]
 ·by_cases hf:Qg (a::l)=true
  ·simp[RS.fin,RS.give,FS.fin,rsO,fgL,hf]
  ·simp[RS.fin,RS.give,FS.fin,rsO,fgL,hf,RS.fail,FS.fail,JdU]
section
variable(g:GoodT t o)(ht:t.Fit){of:Lx}{S S':FS}
include g ht
omit ht in
theorem rmVisitNo(hi:i<t.nodes.length)(hd:d.length=t.nodes.length)(h:d.getD i false=true\/S.bad.isSome=true):RMe Ga 34 [.int .i64 (i:Int)] t of (rsO t.nodes.length S d) (rsO t.nodes.length S d) (.tup []):=by
 have Ag:=g.many;have AU:(bqz d).length=t.nodes.length:=by rw[Jci,hd]
 have Eb:=Jcj (l:=d) (i:=i) om;refine QH (vfS c34_ok λN=>?_)
 cases hc:d.getD i false with
 |true=>
  rw[hc]at Eb;simp only[go_sem,c34,hpR,Qc,rsO,AU,Eb,Gi,Gh]
  repeat refine aN ?_
  exact .done (wk.refl _)
 |false=>
  rw[hc]at Eb h;rcases h with h|h
  ·cases h
  obtain⟨b,hb⟩:=Hm.1 h;have d0:(0<=JdU S.bad)=True:=eq_true (by rw[hb];simp[JdU]);simp only[go_sem,c34,hpR,Qc,rsO,AU,Eb,Gi,Gh,d0]
  repeat refine aN ?_
  exact .done (wk.refl _)
omit ht in
theorem JeF{d1:LK}(hi:i<t.nodes.length)(hd:d.length=t.nodes.length)(aS:d1.length=t.nodes.length)(Ea:d.getD i false=false)(hb:S.bad=none)(hX:(1<=(nd t i).k/\(nd t i).k<=29->RMe Ga 63 [.int .i64 (i:Int),.agg (nd t i).cv] t of (rsO t.nodes.length S d) (rsO t.nodes.length S' d1) (.tup []))/\(30<=(nd t i).k->RMe Ga 64 [.int .i64 (i:Int),.agg (nd t i).cv] t of (rsO t.nodes.length S d) (rsO t.nodes.length S' d1) (.tup []))):RMe Ga 34 [.int .i64 (i:Int)] t of (rsO t.nodes.length S d) (rsO t.nodes.length S' (d1.set i true)) (.tup []):=by
 have Ag:=g.many;have hg:=JX hi;have AU:(bqz d).length=t.nodes.length:=by rw[Jci,hd]
 have Eb:=Jcj (l:=d) (i:=i) om;rw[Ea]at Eb;have Sr:(bqz d1).length=t.nodes.length:=by rw[Jci,aS]
 have Su:=Jcj (l:=d1) (i:=i) om;have IZ:(bqz d1).set i [.bool true]=bqz (d1.set i true):=Jh4;have d0:(0<=JdU S.bad)=False:=eq_false (by rw[hb];simp[JdU]);have jF:=JeQ (nd t i).k;have D7:(nd t i).k≠0:=λh0=>by have hn:=g.nds (nd t i) (by unfold nd;rw[Gq,Gs hi];exact GD hi);rw[ndI_R]at hn;simp[h0,Qk]at hn
 refine QH (vfS c34_ok λN=>?_);simp only[go_sem,c34,hpR,Qc,rsO,AU,Eb,Gi,Gh,d0,Ja,hg,Nd.cv]
 repeat refine aN ?_
 refine J5 (t:=t) (of:=of) (R:=rsO t.nodes.length S d) (X:=[.arr 5 [(nd t i).cv]]) 0 rfl rfl rfl ?_;simp only[go_sem,Jv,frz,JK,Kn,Gb,Gc,Gd,show ¬(0:Nat)=0+4 by decide,if_false,if_true,Nd.cv,Gn,Gf,Gj];refine JU jF ?_;by_cases hk:1<=(nd t i).k/\(nd t i).k<=29
 ·have e:inN 1 29 (nd t i).k=true:=by unfold inN;simp;omega
  rw[e];simp only[go_sem];refine Kon (X:=[.dead]) (hX.1 hk) ?_;simp only[go_sem,hpR,Qc,rsO,Sr,Su,GN,Gf,Gi,Gh,IZ,Gd,Gg]
  repeat refine aN ?_
  exact .outR (t:=t) (of:=of) (R:=rsO t.nodes.length S' (d1.set i true)) (X:=[.dead]) (wk.refl _) rfl
 ·have e:inN 1 29 (nd t i).k=false:=by unfold inN;simp;omega
  rw[e];simp only[go_sem];refine Kon (X:=[.dead]) (hX.2 om) ?_;simp only[go_sem,hpR,Qc,rsO,Sr,Su,GN,Gf,Gi,Gh,IZ,Gd,Gg]
  repeat refine aN ?_
  exact .outR (t:=t) (of:=of) (R:=rsO t.nodes.length S' (d1.set i true)) (X:=[.dead]) (wk.refl _) rfl
end
theorem Jfb {S:FS}(hb:S.bad=none)(h:l=[]->Jr S.got i=[]):(rsO n S d).give i true l=rsO n (S.fin i (some l)) d:=by
 rw[<-rs_fin hb]
 cases l with
 |nil=>exact give_nil (h rfl)
 |cons a l=>rfl
theorem force_fd{go:FS->Nat->FS}{S:FS}{s:Nat}(hb:J6 S.fg s=false)(h:(Qn t o go s i S).bad=none):J6 (Qn t o go s i S).fd s=true:=by
 unfold Qn at h|-;rw[if_neg (by rw[hb];decide)]at h|-;simp only at h|-;generalize List.foldl go _ _=S1 at h|-
 cases h1:S1.bad with
 |some b=>simp[h1]at h
 |none=>
  simp only[h1,Ho,GM,if_false]at h|-;unfold JR at h|-;simp only at h|-
  split at h
  ·rename_i hl;rw[if_pos hl];simp[QX]
  ·simp[FS.fail,h1]at h
section
variable(g:GoodT t o)(ht:t.Fit)
include g ht
theorem rmName (hE:(XY t o).2=0)(ih:RoW t o f){Z:FS}(hI:FI t Z)(hM:FM t o Z)(Bb:Ln Z.got)(hi:i<t.nodes.length)(h3:(nd t i).k=3)(hP:JfO t o Z i)(hu:uf t Z<f+1)(Cf:Z.bad=none)(Ea:Z.dn.getD i false=false)(hd:DnOk t Z d):∃d',DnOk t (Y3 t o (doF t o (mnF t o) f) (mnF t o i) i Z).1 d'/\RMe Ga 106 [.int .i64 (i:Int)] t (ofL t o) (rsO t.nodes.length Z d) (rsO t.nodes.length ((Y3 t o (doF t o (mnF t o) f) (mnF t o i) i Z).1.fin i (Y3 t o (doF t o (mnF t o) f) (mnF t o i) i Z).2) d') (.tup []):=by
 have Ag:=g.many;obtain⟨m,hm⟩:∃m:Nat,JY t o i=m:=by obtain⟨F9,Co,MJ,_,Oa⟩:=YQ g hE hi h3;exact⟨(JY t o i).toNat,om⟩
 have Du:mnF t o i=m:=by unfold mnF;rw[hm];rfl
 rw[Du];obtain⟨Ce,AQ,Dy⟩:=Jat g hE hi h3 hm;have CW:(iz (ofL t o)).getD i []=[.int .i64 (m:Int)]:=by rw[JF (by rw[QL];exact hi),JeZ hi,hm]
 have Bn:(iz (ofL t o)).length=t.nodes.length:=by rw[Jf,QL]
 have hg:=JX Ce;have Cj:=Yp g Ce;have Ap:(iz (nd t m).kids).length=(nd t m).kids.length:=Jf;have D7:0<(nd t m).kids.length->(iz (nd t m).kids).getD 0 []=[.int .i64 (Ju t m 0:Int)]:=λh=>by rw[JF h,JC g Ce h]
 have g1:(gz Z.got).length=t.nodes.length:=by rw[QB,hI.gl]
 have g2:(gz Z.got).getD m []=[txV (Jr Z.got m)]:=KV (by rw[hI.gl];exact Ce);have dB:(JdU Z.bad<0)=True:=eq_true (by rw[Cf];simp[JdU]);have UO:Jr Z.got i=[]:=hI.emp i Ea (λh=>by have:=h.1;omega);have bJ:=YN (t:=t) (of:=ofL t o) (R:=rsO t.nodes.length Z d) (b:=true) (l:=Jr Z.got m) hi hI.gl (by have:=Bb m;omega) (λa ha=>by have:=Yx (hI.fine m) ha;omega);rw[Jfb Cf (λ_=>UO)]at bJ;unfold Y3;rcases Dy with h|h|h|⟨h,s,k,s1,s2,s3,s4,s5,s6⟩
 ·rw[if_pos h];have Di:=YN (t:=t) (of:=ofL t o) (R:=rsO t.nodes.length Z d) (b:=true) (l:=[TyX.int]) hi hI.gl sM (λa ha=>by rw[Gp.1 ha];decide);rw[Jfb Cf (λh=>by cases h)]at Di;refine⟨d,hd,?_⟩;refine QH (vfS c106_ok λN=>?_);simp only[c106,go_sem,hpR,Qc,rsO,CW,Bn,Ja,hg,Nd.cv,h,Gl]
  repeat refine aN ?_
  refine J5 (t:=t) (of:=ofL t o) (R:=rsO t.nodes.length Z d) (X:=[_,.arr 1 [[S [105,110,116]]]]) 1 rfl rfl rfl ?_;simp only[go_sem,Jv,frz,JK,Kn,Gb,Gc,Gd,Gg,Gt,Gr,Gf,Gj,if_true,show ¬(4:Nat)=1+4 by decide,if_false];refine Kon (R:=rsO t.nodes.length Z d) (X:=[_,.dead]) Di ?_;simp only[go_sem];exact .outR (t:=t) (of:=ofL t o) (R:=rsO t.nodes.length (Z.fin i (some [TyX.int])) d) (wk.refl _) rfl
 ·rw[iN7,if_pos (.inl h)];obtain⟨w1,w2,w3,w4⟩:=Cj (.inr (.inl om));have hT:=YO g ht (Ju t m 0) om w3 w4;have UE:=X0 (t:=t) (i:=Ju t m 0) om;have Di:=YN (t:=t) (of:=ofL t o) (R:=rsO t.nodes.length Z d) (b:=true) (l:=[tyN t (Ju t m 0)]) hi hI.gl sM (λa ha=>by rw[Gp.1 ha];omega);rw[Jfb Cf (λh=>by cases h)]at Di;have d0:((0:Int)<((nd t m).kids.length:Int))=True:=J4;refine⟨d,hd,?_⟩;refine QH (vfS c106_ok λN=>?_);simp only[c106,go_sem,hpR,Qc,rsO,CW,Bn,Ja,hg,Nd.cv,h,Gl,Ap,d0]
  repeat refine aN ?_
  refine J5 (t:=t) (of:=ofL t o) (R:=rsO t.nodes.length Z d) (X:=[.arr 5 [[.int .u8 64,S (nd t m).text,.int .i64 (nd t m).n,.rslc 1 (iz (nd t m).kids) none,.int .i64 (nd t m).pl]]]) 0 rfl rfl rfl ?_;simp only[go_sem,hpR,Qc,rsO,Jv,frz,JK,Kn,Gb,Gc,Gd,Gg,show ¬(0:Nat)=0+4 by decide,if_false,if_true,Nd.cv,Gn,Gf,Gj];refine JH [0,0,0,0,0,4,0,0,0,0,0,0,2] Jm vM ?_;simp only[go_sem,Ap,D7 w1]
  repeat refine aN ?_
  refine Jdx (.inl rfl) hT ?_;simp only[go_sem];refine YI [[S (tyT (tyN t (Ju t m 0)))]] (.inl rfl) rfl rfl rfl rfl ?_;simp only[go_sem];refine JaB (.inl rfl) (Di.on (X:=[.dead]) rfl rfl) ?_;simp only[go_sem];exact .outR (t:=t) (of:=ofL t o) (R:=rsO t.nodes.length (Z.fin i (some [tyN t (Ju t m 0)])) d) (wk.refl _) rfl
 ·rw[iN7,iN7,iN7];refine⟨d,hd,?_⟩;refine QH (vfS c106_ok λN=>?_);simp only[c106,go_sem,hpR,Qc,rsO,CW,Bn,Ja,hg,Nd.cv,h,Gl,Ap,dB,g1,g2]
  repeat refine aN ?_
  refine Kon (R:=rsO t.nodes.length Z d) (X:=[_]) bJ ?_;simp only[go_sem];exact .outR (t:=t) (of:=ofL t o) (R:=rsO t.nodes.length (Z.fin i (some (Jr Z.got m))) d) (wk.refl _) rfl
 ·rw[iN7];by_cases hn:(nd t m).kids=[]
  ·rw[if_neg (by rintro(h2|⟨_,h2⟩);omega;exact h2 hn)];have A9:(nd t m).kids.length=0:=by rw[hn];rfl
   have d0:((0:Int)<((0:Nat):Int))=False:=eq_false vk;rw[s1,Gm];have Br:(txz (Jr Z.got m)).length=(Jr Z.got m).length:=KL
   cases hb:J6 Z.fd s with
   |true=>
    rw[if_neg sM];obtain⟨_,_,_,aK⟩:=hI.fnd s hb;have Oj:(Jr Z.got m).length=1:=by have:=aK k s5 (by rw[s6];exact hn);rw[s6]at this;rw[this];rfl
    have dL:(((Jr Z.got m).length:Int) == 0)=false:=by rw[Oj];rfl
    refine⟨d,hd,?_⟩;refine QH (vfS c106_ok λN=>?_);simp only[c106,go_sem,hpR,Qc,rsO,CW,Bn,Ja,hg,Nd.cv,h,Gl,Ap,A9,d0,txV,Br,dL,dB,g1,g2]
    repeat refine aN ?_
    refine Kon (R:=rsO t.nodes.length Z d) (X:=[_]) bJ ?_;simp only[go_sem];exact .outR (t:=t) (of:=ofL t o) (R:=rsO t.nodes.length (Z.fin i (some (Jr Z.got m))) d) (wk.refl _) rfl
   |false=>
    rw[if_pos ⟨h,rfl⟩];have Oj:Jr Z.got m=[]:=by have:=hI.unf s s2 s3 hb k s5 (by rw[s6];exact hn);rwa [s6]at this
    have PY:(txz (Jr Z.got m)).length=0:=by rw[Oj];rfl
    have dL:(((0:Nat):Int) == 0)=true:=rfl;have bD:=Ja9 g ht Ce;rw[s1]at bD;have EM:(bqz (fgL t.nodes.length Z)).length=t.nodes.length:=by rw[Jci,JhV]
    have En:(bqz (fgL t.nodes.length Z)).getD s []=[.bool (J6 Z.fg s)]:=by rw[Jcj (by rw[JhV];exact s2),fgL_get s2]
    cases EB:J6 Z.fg s with
    |true=>
     rw[EB]at En;have e:Qn t o (doF t o (mnF t o) f) s i Z=Z.fail i:=by unfold Qn;rw[if_pos EB]
     rw[e];have e2:(Z.fail i).bad=some i:=by unfold FS.fail;rw[Cf];rfl
     have e3:(Z.fail i).fin i (some (Jr (Z.fail i).got m))=Z.fail i:=by unfold FS.fin;simp only;rw[e2];rfl
     simp only;rw[e3];refine⟨d,⟨hd.1,λh=>by rw[e2]at h;cases h⟩,?_⟩;refine QH (vfS c106_ok λN=>?_);simp only[c106,go_sem,hpR,Qc,rsO,CW,Bn,Ja,hg,Nd.cv,h,Gl,Ap,A9,d0,txV,PY,dL,g1,g2]
     repeat refine aN ?_
     refine JU bD ?_;simp only[go_sem,EM,En]
     repeat refine aN ?_
     have eP:=Jcu (t:=t) (of:=ofL t o) (R:=rsO t.nodes.length Z d) (i:=i);rw[rs_fail]at eP;refine Kon (R:=rsO t.nodes.length Z d) (X:=[_]) eP ?_;simp only[go_sem];exact .outR (t:=t) (of:=ofL t o) (R:=rsO t.nodes.length (Z.fail i) d) (wk.refl _) rfl
    |false=>
     rw[EB]at En;obtain⟨d',p1,p2⟩:=rmFind g ht hE ih hI hM Bb hi hP hu s2 s3 s4 h AQ EB hd;obtain⟨f1,_⟩:=JbL g (Jaw g hE f) hI hM hi hP hu s2 s3 s4 h AQ;have Si:=force_fd (t:=t) (o:=o) (go:=doF t o (mnF t o) f) (s:=s) (i:=i) EB;generalize Qn t o (doF t o (mnF t o) f) s i Z=SF at *;simp only;have g3:(gz SF.got).length=t.nodes.length:=by rw[QB,f1.gl]
     have g4:(gz SF.got).getD m []=[txV (Jr SF.got m)]:=KV (by rw[f1.gl];exact Ce);refine⟨d',p1,?_⟩;refine QH (vfS c106_ok λN=>?_);simp only[c106,go_sem,hpR,Qc,rsO,CW,Bn,Ja,hg,Nd.cv,h,Gl,Ap,A9,d0,txV,PY,dL,g1,g2]
     repeat refine aN ?_
     refine JU bD ?_;simp only[go_sem,EM,En]
     repeat refine aN ?_
     refine Kon (R:=rsO t.nodes.length Z d) (X:=[_]) p2 ?_
     cases Ca:SF.bad with
     |some b=>
      have dB2:(JdU SF.bad<0)=False:=eq_false (by rw[Ca];simp[JdU]);have e3:SF.fin i (some (Jr SF.got m))=SF:=by unfold FS.fin;simp only;rw[Ca];rfl
      simp only[go_sem,hpR,Qc,rsO,dB2,e3];exact .outR (t:=t) (of:=ofL t o) (R:=rsO t.nodes.length SF d') (X:=[_]) (wk.refl _) rfl
     |none=>
      have dB2:(JdU SF.bad<0)=True:=eq_true (by rw[Ca];simp[JdU]);obtain⟨_,_,_,aK⟩:=f1.fnd s (Si Ca);have O5:=aK k s5 (by rw[s6];exact hn);rw[s6]at O5;have PQ:=YN (t:=t) (of:=ofL t o) (R:=rsO t.nodes.length SF d') (b:=true) (l:=Jr SF.got m) hi f1.gl (by rw[O5];simp) (λa ha=>by have:=Yx (f1.fine m) ha;omega);rw[Jfb Ca (λe=>by rw[O5]at e;cases e)]at PQ;simp only[go_sem,hpR,Qc,rsO,dB2,g3,g4]
      repeat refine aN ?_
      refine Kon (R:=rsO t.nodes.length SF d') (X:=[_]) PQ ?_;simp only[go_sem];exact .outR (t:=t) (of:=ofL t o) (R:=rsO t.nodes.length (SF.fin i (some (Jr SF.got m))) d') (wk.refl _) rfl
  ·rw[if_pos (.inr ⟨h,hn⟩)];obtain⟨w1,w2,w3,w4⟩:=Cj (.inr (.inr ⟨h,hn⟩));have hT:=YO g ht (Ju t m 0) om w3 w4;have UE:=X0 (t:=t) (i:=Ju t m 0) om;have Di:=YN (t:=t) (of:=ofL t o) (R:=rsO t.nodes.length Z d) (b:=true) (l:=[tyN t (Ju t m 0)]) hi hI.gl sM (λa ha=>by rw[Gp.1 ha];omega);rw[Jfb Cf (λh=>by cases h)]at Di;have d0:((0:Int)<((nd t m).kids.length:Int))=True:=J4;refine⟨d,hd,?_⟩;refine QH (vfS c106_ok λN=>?_);simp only[c106,go_sem,hpR,Qc,rsO,CW,Bn,Ja,hg,Nd.cv,h,Gl,Ap,d0]
   repeat refine aN ?_
   refine J5 (t:=t) (of:=ofL t o) (R:=rsO t.nodes.length Z d) (X:=[.arr 5 [[.int .u8 42,S (nd t m).text,.int .i64 (nd t m).n,.rslc 1 (iz (nd t m).kids) none,.int .i64 (nd t m).pl]]]) 0 rfl rfl rfl ?_;simp only[go_sem,hpR,Qc,rsO,Jv,frz,JK,Kn,Gb,Gc,Gd,Gg,show ¬(0:Nat)=0+4 by decide,if_false,if_true,Nd.cv,Gn,Gf,Gj];refine JH [0,0,0,0,0,4,0,0,0,0,0,0,2] Jm vM ?_;simp only[go_sem,Ap,D7 w1]
   repeat refine aN ?_
   refine Jdx (.inl rfl) hT ?_;simp only[go_sem];refine YI [[S (tyT (tyN t (Ju t m 0)))]] (.inl rfl) rfl rfl rfl rfl ?_;simp only[go_sem];refine JaB (.inl rfl) (Di.on (X:=[.dead]) rfl rfl) ?_;simp only[go_sem];exact .outR (t:=t) (of:=ofL t o) (R:=rsO t.nodes.length (Z.fin i (some [tyN t (Ju t m 0)])) d) (wk.refl _) rfl
end
section
variable(g:GoodT t o){of:Lx}
include g
theorem rmExpr3(hi:i<t.nodes.length)(kk:(nd t i).k=3)(h:RMe Ga 106 [.int .i64 (i:Int)] t of R R' (.tup [])):RMe Ga 63 [.int .i64 (i:Int),.agg (nd t i).cv] t of R R' (.tup []):=by have Ag:=g.many;have Ae:(iz (nd t i).kids).length=(nd t i).kids.length:=Jf;have A9:(nd t i).kids.length=0:=kids_none g hi (.inr (.inr kk));obtain⟨c,Fv⟩:=JeN none (by simp[opT]);have d00:((0:Int)<((0:Nat):Int))=False:=eq_false vk;have d10:((1:Int)<((0:Nat):Int))=False:=eq_false vk;refine QH (vfS c63_ok λN=>?_);simp -implicitDefEqProofs only[go_sem,Ae,A9,d00,d10,c63,hpR,Qc,Nd.cv];refine J5 (t:=t) (of:=of) (R:=R) (X:=[.arr 5 [(nd t i).cv]]) 0 rfl rfl rfl ?_;simp -implicitDefEqProofs only[go_sem,Jv,frz,JK,Kn,Gb,Gc,Gd,Gg,hpR,Qc,show ¬(0:Nat)=0+4 by decide,if_false,if_true,Nd.cv,Gn,Gf,Gj];refine JU Fv ?_;simp -implicitDefEqProofs only[go_sem,kk,Gl];refine Kon (R:=R) (X:=[.dead]) h ?_;simp -implicitDefEqProofs only[go_sem];exact .outR (wk.refl _) rfl
end
theorem putB_same{s:Nat}:∀m,(∀k,k<m->(nd t (Ju t s k)).kids=[]->Jr got (Ju t s k)=[l.getD k .int]/\Ju t s k<got.length)->Yb t s l got m=got
 |0,_=>rfl
 |m+1,h=>by
  have ih:=putB_same m λk hk=>h k om
  unfold Yb;rw[ih]
  split
  ·rename_i he;obtain⟨h1,h2⟩:=h m om he;refine GY sM λj q1 q2=>?_
   rw[HY]
   split
   ·rename_i e;subst e;unfold Jr at h1;rw[Gq,Gs h2]at h1;exact h1.symm
   ·rfl
  ·rfl
theorem sets_rs{s:Nat}{Z:FS}(hI:FI t Z)(hb:Z.bad=none)(hs:s<t.nodes.length)(hk:(nd t s).k=41)(Bj:∀k,k<nB t s->Ju t s k<t.nodes.length)(BH:s<n):(rsO n Z d).sets t s=rsO n ((YC t s Z).fin s (if XF t s (Jr (YC t s Z).got (Ji t s))=true then some [] else none)) d:=by
 have e:(rsO n Z d).binds t s=rsO n (YC t s Z) d:=by
  rw[settle_rs BH,hb,if_neg vk];unfold YC
  cases hf:J6 Z.fd s with
  |false=>rw[if_neg vk]
  |true=>
   rw[if_pos rfl];obtain⟨_,_,q3,q4⟩:=hI.fnd s hf;unfold nB at q3;unfold JR;simp only;rw[if_pos q3];have:Yb t s (Jr Z.got (Ji t s)) Z.got (nd t s).n.toNat=Z.got:=putB_same _ λk Aq he=>⟨q4 k Aq he,by rw[hI.gl];exact Bj k Aq⟩
   rw[this];simp[rsO,hb,fgL]
 unfold RS.sets;rw[e];generalize YC t s Z=Y;obtain⟨got,dn,fd,fg,bad⟩:=Y
 cases bad with
 |some b=>
  have hn:¬(rsO n (⟨got,dn,fd,fg,some b⟩:FS) d).bad<0:=by simp[rsO,JdU]
  rw[if_neg hn]
  cases Cs:XF t s (Jr got (Ji t s)) <;> simp[FS.fin,FS.fail,Cs]
 |none=>cases Cs:XF t s (Jr got (Ji t s)) <;> simp[rsO,JdU,FS.fin,FS.fail,RS.fail,Qg,Cs,fgL]
theorem JhU{Y:FS}(h:DnOk t Y d):DnOk t (Y.fin i r) (d.set i true):=by
 refine⟨by rw[List.length_set];exact h.1,λhb=>?_⟩
 cases hY:Y.bad with
 |some b=>rw[(Jfi (by rw[hY];rfl)).1,hY]at hb;cases hb
 |none=>
  have h2:=h.2 hY
  cases r with
  |none=>simp[FS.fin,FS.fail,hY]at hb
  |some l=>
   unfold FS.fin at hb|-;simp only[hY,Ho,GM,if_false]at hb|-;by_cases hf:Qg l=true
   ·rw[if_pos hf];simp only;rw[h2]
   ·rw[if_neg hf]at hb;simp[FS.fail,hY]at hb
section
variable(g:GoodT t o)(ht:t.Fit)
include g ht
theorem lawRo (hE:(XY t o).2=0):∀f,RoW t o f
 |0=>λ_ _ _ _ _ _ _ _ hu _=>absurd hu om
 |f+1=>λZ i d hI hM Bb hi hP hu hd=>by
  have ih:=lawRo hE f;by_cases PO:Z.bad.isSome=true
  ·rw[doF_bad PO];exact⟨d,hd,rmVisitNo g hi hd.1 (.inr PO)⟩
  have hb:Z.bad=none:=by cases h:Z.bad with
   |none=>rfl
   |some b=>rw[h]at PO;exact absurd rfl PO
  have UC:=hd.2 hb
  cases Ea:Z.dn.getD i false with
  |true=>
   have e:doF t o (mnF t o) (f+1) Z i=Z:=by rw[doF,if_pos (by rw[Ea,Bool.or_true])]
   rw[e];exact⟨d,hd,rmVisitNo g hi hd.1 (.inl (by rw[UC];exact Ea))⟩
  |false=>
   have Fu:d.getD i false=false:=by rw[UC];exact Ea
   have D7:(nd t i).k≠0:=λh0=>by have hn:=g.nds (nd t i) (by unfold nd;rw[Gq,Gs hi];exact GD hi);rw[ndI_R]at hn;simp[h0,Qk]at hn
   by_cases h3:(nd t i).k=3
   ·obtain⟨d1,e1,e2⟩:=rmName g ht hE ih hI hM Bb hi h3 hP hu hb Ea hd;have e:doF t o (mnF t o) (f+1) Z i=(Y3 t o (doF t o (mnF t o) f) (mnF t o i) i Z).1.fin i (Y3 t o (doF t o (mnF t o) f) (mnF t o i) i Z).2:=by rw[doF,if_neg (by rw[hb,Ea];decide),if_pos h3]
    rw[e];exact⟨d1.set i true,JhU e1,JeF g hi hd.1 e1.1 Fu hb ⟨λ_=>rmExpr3 g hi h3 e2,λh=>absurd h om⟩⟩
   by_cases Ba:(nd t i).k=41
   ·have e:doF t o (mnF t o) (f+1) Z i=(YC t i Z).fin i (if XF t i (Jr (YC t i Z).got (Ji t i))=true then some [] else none):=by rw[doF,if_neg (by rw[hb,Ea];decide),iN7,if_pos Ba]
    rw[e];obtain⟨b1,b2,b3,b4⟩:=KA g hi Ba;have Bj:∀k,k<nB t i->Ju t i k<t.nodes.length:=λk hk=>by have:=(b2 k hk).2;omega
    have hS:=rmSet g ht (of:=ofL t o) (R:=rsO t.nodes.length Z d) hi Ba hI.gl Bb λk hk Ai=>hI.typ (Ju t i k) (Bj k hk) ((hP hb).1 _ (Jz g hi (i:=k) om).1) (b2 k hk).1 Ai
    rw[sets_rs hI hb hi Ba Bj hi]at hS;have IZ:DnOk t (YC t i Z) d:=by
     refine⟨hd.1,λh=>?_⟩;unfold YC
     split
     ·exact UC
     ·rw[settle_dn.1];exact UC
    exact⟨d.set i true,JhU IZ,JeF g hi hd.1 hd.1 Fu hb ⟨λh=>absurd h om,λ_=>hS⟩⟩
   have e:doF t o (mnF t o) (f+1) Z i=Z.fin i (Qd t (mnF t o i) Z.got i):=by rw[doF,if_neg (by rw[hb,Ea];decide),if_neg h3,if_neg Ba]
   rw[e];have Dj:(nd t i).k=26->(ofL t o).getD i 0=(mnF t o i:Int)/\mnF t o i<t.nodes.length/\(nd t (mnF t o i)).k=65:=λhk=>by obtain⟨h1,h2,h3⟩:=Jd9 g hE hi (by simp[KI,hk]);exact⟨h1,h2,h3 hk⟩
   have BG:(nd t i).k=44->(ofL t o).getD i 0=(mnF t o i:Int)/\mnF t o i<t.nodes.length/\(Jr Z.got (mnF t o i)).length=1:=λhk=>by
    obtain⟨h1,h2,_⟩:=Jd9 g hE hi (by simp[KI,hk]);have hm:JY t o i=(mnF t o i:Int):=(JeZ hi).symm.trans h1;obtain⟨Ce,_,Cb,Db⟩:=(meanX_iff g (Jeh hE) hi hk).1 hm;obtain⟨u,u1,u2,u3,u4⟩:=QO g Ce om;obtain⟨u',v1,v2,v3,v4⟩:=QO g hi om;obtain rfl:u=u':=om;have aA:=init_loop g u2 u4 Cb;refine⟨h1,h2,hI.ini _ Ce ((hP hb).2 _ Ce Cb (Jcb g u2 aA u4 Cb v4 om) ?_) Cb⟩;rw[u1,Gm];exact QA g u2 v4
   have h0:¬Jay t i->Jr Z.got i=[]:=λh=>hI.emp i Ea h
   refine⟨d.set i true,JhU hd,JeF g hi hd.1 hd.1 Fu hb ⟨λh=>?_,λh=>?_⟩⟩
   ·have UO:=h0 λhq=>by have:=hq.1;omega
    by_cases jS:(nd t i).k<=24
    ·have:=rmExpr1 g ht (of:=ofL t o) (R:=rsO t.nodes.length Z d) (m:=mnF t o i) hi ⟨h.1,jS⟩ h3 hI.gl hI.fine;rw[JfD UO,rs_fin hb]at this;exact this
    ·have:=rmExpr2 g ht (of:=ofL t o) (R:=rsO t.nodes.length Z d) (m:=mnF t o i) hi ⟨om,h.2⟩ QL Dj hI.gl Bb hI.fine;rw[JfD UO,rs_fin hb]at this;exact this
   ·have:=rmOther g ht (of:=ofL t o) (R:=rsO t.nodes.length Z d) (m:=mnF t o i) hi ⟨h,Ba⟩ QL BG hI.gl Bb hI.fine λhk=>h0 λhq=>hk hq.1
    rw[rs_fin hb]at this;exact this
end
def infV (t:Tr)(o:Lx):CV:=if (XY t o).2≠0 then .tup [.rslc 1 [] none,.int .i64 ((XY t o).1:Int),.int .i64 (XY t o).2] else match (JN t o).bad with
 |some i=>.tup [.rslc 1 [] none,.int .i64 (i:Int),.int .i64 11]
 |none=>.tup [.rslc 1 (gz (JN t o).got) none,.int .i64 0,.int .i64 0]
section
variable(g:GoodT t o)(ht:t.Fit)
include g ht
theorem JeR:Fn Ga 10 [t.cv] (infV t o):=by
 have Ag:=g.many;have hR:=refResolve g ht;rw[<-res_eq g]at hR;refine Jgv (vfS c10_ok λN=>?_) rfl (by unfold infV;split;rfl;split <;> rfl);simp only[c10,go_sem,Tr.cv,Tr.row];refine JU hR ?_;by_cases hE:(XY t o).2=0
 case neg=>
  have e0:((XY t o).2 != 0)=true:=by simpa using hE
  rw[if_neg hE];unfold infV;rw[if_pos hE];simp only[go_sem,e0];exact .frz 1 1 [] rfl rfl (.drop rfl (wk.refl _))
 have e0:((0:Int) != 0)=false:=rfl;rw[if_pos hE];simp only[go_sem,Ja,e0];refine Je (id:=0) (z:=2) (els:=[t.row]) rfl rfl ?_;simp only[go_sem,Tr.row];refine vr_ren [] rfl ?_;simp only[go_sem];refine vr_pads 4 rfl ?_;simp only[go_sem];refine JaC (H':=[.dead,.dead,.dead,.dead]) rfl ?_;simp only[go_sem];have F8:∀(ρ:LB) (id i n:Nat),Jl id ρ 0=some i->ren ρ (.slc id 0 n (some n))=.slc i 0 n (some n):=λρ id i n h=>by simp only[ren,h]
 have RQ:∀(ρ:LB) (id i:Nat),Jl id ρ 0=some i->ren ρ (.ptr id 0 0)=.ptr i 0 0:=λρ id i h=>by simp only[ren,h]
 have MS:∀b:Int,0<=b->b<=24->(Cond.and (.ile 0 (t.nodes.length:Int)) (.and (.ile (t.nodes.length:Int) (t.nodes.length:Int)) (.and (.ile (t.nodes.length:Int) 281474976710656) (.ile (b*(t.nodes.length:Int)) 281474976710656)))).holds:=λb h1 h2=>by
  refine⟨?_,?_,?_,?_⟩
  ·show (0:Int)<=_;omega
  ·show (t.nodes.length:Int)<=_;omega
  ·show (t.nodes.length:Int)<=_;omega
  ·show b*(t.nodes.length:Int)<=_;have:=Int.mul_le_mul h2 (show (t.nodes.length:Int)<=700 by omega) om om;omega
 have IE:∀(m:Nat) (c:CV),refs c=[]->JeK (.arr 1 (Gy m [c]))=[]:=λm c h=>by simp[JeK,JeL,h,List.flatMap_replicate]
 refine vr_dregZ 0 [(0,[]),(0,[]),(0,[]),(2,[]),(0,[]),(3,[]),(0,[]),(4,[]),(0,[1,2,3]),(1,[1,2,3]),(0,[0])] Jm vM (NoD.none rfl rfl) ?_;refine YH rfl rfl (Nat.le_of_ble_eq_true rfl) rfl sM ?_;simp only[go_sem];refine YH rfl rfl trivial rfl sM ?_;simp only[go_sem];refine YH rfl rfl trivial rfl sM ?_;simp only[go_sem];refine JaT 1 (λid=>.slc id 0 t.nodes.length (some t.nodes.length)) (.arr 1 (Gy t.nodes.length [.nils])) rfl (λ_=>rfl) (MS 24 vk vk) (λ_ _ _ h=>F8 _ _ _ _ h) rfl rfl rfl vk vk (IE _ _ rfl) sM ?_;simp only[go_sem,Gd,Gg];refine YH rfl rfl trivial rfl sM ?_;simp only[go_sem];refine JaT 2 (λid=>.slc id 0 t.nodes.length (some t.nodes.length)) (.arr 1 (Gy t.nodes.length [.bool false])) rfl (λ_=>rfl) (MS 1 vk vk) (λ_ _ _ h=>F8 _ _ _ _ h) rfl rfl rfl vk vk (IE _ _ rfl) sM ?_;simp only[go_sem,Gd,Gg];refine YH rfl rfl trivial rfl sM ?_;simp only[go_sem];refine JaT 3 (λid=>.slc id 0 t.nodes.length (some t.nodes.length)) (.arr 1 (Gy t.nodes.length [.bool false])) rfl (λ_=>rfl) (MS 1 vk vk) (λ_ _ _ h=>F8 _ _ _ _ h) rfl rfl rfl vk vk (IE _ _ rfl) sM ?_;simp only[go_sem,Gd,Gg];have AQ:∀(H:Lv) (i:Nat),(∃ob,H[i]? = some ob/\ob.alive=true)->okId H 0 i:=λH i ⟨ob,h1,h2⟩=>⟨(List.getElem?_eq_some_iff.1 h1).1,λhd=>by rw[hd]at h1;cases h1;cases h2⟩
 refine YH rfl rfl trivial rfl (by intro i hi;simp only[Hg,Hd,or_false]at hi;rcases hi with rfl|rfl|rfl <;> exact AQ _ _ ⟨_,rfl,rfl⟩) ?_;simp only[go_sem];refine JaT 0 (λid=>.ptr id 0 0) (.arr 7 [Qc t (ofL t o) (-1)]) rfl (λ_=>rfl) trivial (λ_ _ _ h=>RQ _ _ _ h) rfl rfl rfl vk vk rfl (by intro i hi;simp only[Hg,Hd,or_false]at hi;rcases hi with rfl|rfl|rfl <;> exact AQ _ _ ⟨_,rfl,rfl⟩) ?_;simp only[go_sem,Gd,Gg];refine YH rfl rfl trivial rfl (by intro i hi;rw[Gp]at hi;subst hi;exact AQ _ _ ⟨_,rfl,rfl⟩) ?_;simp only[vdz,go_sem,JK,frz,ren,JG,Gd,Gg,Gn,Gf,GU,if_true,if_false];refine vr_wkE (i:=1) (z:=1) (els':=gz (Gy t.nodes.length [])) rfl (by simp[gz]) (λj a b h1 h2=>?_) ?_
 ·rw[Ha]at h1;simp only[gz,List.map_replicate,Ha]at h2
  split at h1
  ·rename_i hj;rw[if_pos hj]at h2
   cases h1;cases h2
   exact⟨wk.nils,trivial⟩
  ·cases h1
 simp only[go_sem,Gd,Gg];have Al:hpR t (ofL t o) (rsO t.nodes.length (FS.start t) (Gy t.nodes.length false)) []=[.arr 7 [Qc t (ofL t o) (-1)],.arr 1 (gz (Gy t.nodes.length [])),.arr 1 (Gy t.nodes.length [.bool false]),.arr 1 (Gy t.nodes.length [.bool false])]:=by
  have e1:bqz (Gy t.nodes.length false)=Gy t.nodes.length [.bool false]:=by simp[bqz]
  have e2:fgL t.nodes.length (FS.start t)=Gy t.nodes.length false:=by
   unfold fgL FS.start;refine GY sM λj h1 h2=>?_
   simp[J6]
  simp only[hpR,rsO,e2,e1];rfl
 refine JaC Al.symm ?_;clear Al IE MS F8 RQ AQ;simp only[go_sem];have hI:=Jec g hE;have Aj:(Kr 0 t.nodes.length).foldl (doF t o (mnF t o) (t.nodes.length+1)) (FS.start t)=JN t o:=by
  unfold JN Kr
  congr 1
  exact List.map_congr_left (λx _=>Gj x) |>.trans (List.map_id _)
 have Mm:Ln (FS.start t).got:=λj=>by
  unfold FS.start Jr;simp only[Gq,Ha]
  split <;> simp
 have Bb:=λj=>Jb3 ht (o:=o) (S:=FS.start t) Mm (t.nodes.length+1) (Kr 0 j)
 have I6:uf t (FS.start t)<=t.nodes.length:=by unfold uf;have:=Hr (λs=>!J6 (FS.start t).fg s) (Gx t.nodes.length);rw[Hw]at this;exact this
 obtain⟨D,D0,D1,D2⟩:=chain_ex (mm:=t.nodes.length) (x0:=Gy t.nodes.length false) (P:=λj x=>DnOk t ((Kr 0 j).foldl (doF t o (mnF t o) (t.nodes.length+1)) (FS.start t)) x) (Q:=λj x y=>RMe Ga 34 [.int .i64 ((j:Nat):Int)] t (ofL t o) (rsO t.nodes.length ((Kr 0 j).foldl (doF t o (mnF t o) (t.nodes.length+1)) (FS.start t)) x) (rsO t.nodes.length ((Kr 0 (j+1)).foldl (doF t o (mnF t o) (t.nodes.length+1)) (FS.start t)) y) (.tup [])) ⟨sM,λ_=>rfl⟩ λj x hj hx=>by
  obtain⟨p1,p2,p3,p4⟩:=hI j om;have BH:(Kr 0 (j+1)).foldl (doF t o (mnF t o) (t.nodes.length+1)) (FS.start t)=doF t o (mnF t o) (t.nodes.length+1) ((Kr 0 j).foldl (doF t o (mnF t o) (t.nodes.length+1)) (FS.start t)) j:=by rw[YK,Hz,Gj];rfl
  rw[BH];exact lawRo g ht hE (t.nodes.length+1) _ j x p1 p2 (Bb j) hj (in_pre g hj p4) (by rw[uf_eq p3];omega) hx
 have AO:=(hI t.nodes.length (GK _)).1.gl;rw[Aj]at AO;rw[<-D0];refine Js (I:=λj:Nat=>j<=t.nodes.length) (inv:=λj=>mkT 57 [(8,.int .i64 (t.nodes.length:Int)),(9,.ptr 0 0 0),(10,.int .i64 (j:Int))]) (hp:=λj=>hpR t (ofL t o) (rsO t.nodes.length ((Kr 0 j).foldl (doF t o (mnF t o) (t.nodes.length+1)) (FS.start t)) (D j)) []) (μ:=λj=>t.nodes.length-j) 0 [0,1,2,3] om rfl ?_ ?_ ?_
 ·simp only[J2,Gb,Gc,ren,Jl];refine Jt ?_;simp[Km,Kw]
 ·exact KQ (X:=[]) rfl
 ·intro j hj;by_cases Ab:j<t.nodes.length
  ·have d1:=dtT j t.nodes.length;simp only[go_sem,d1];refine Kon (X:=[]) (D2 j Ab) ?_;simp only[go_sem];refine⟨Jg,j+1,[0,1,2,3],om,om,rfl,KQ (X:=[]) rfl,?_⟩;simp only[J2,Gb,Gc,ren,Jl];refine Jt ?_;simp[Km,Kw]
  ·have d1:=dfF j t.nodes.length;obtain rfl:j=t.nodes.length:=om;rw[Aj];unfold infV;rw[if_neg (λh=>h hE)]
   cases hb:(JN t o).bad with
   |some b=>
    have d0:(0<=JdU (JN t o).bad)=True:=eq_true (by rw[hb];simp[JdU]);have e1:JdU (JN t o).bad=(b:Int):=by rw[hb];rfl
    simp only[go_sem,d1,hpR,Qc,rsO,d0];refine JH [0,0,0,0,4,0,0,0] Jm vM ?_;simp only[go_sem];refine YI [] (.inl rfl) rfl rfl rfl rfl ?_;simp only[go_sem,e1];exact .drop rfl (wk.refl _)
   |none=>
    have d0:(0<=JdU (JN t o).bad)=False:=eq_false (by rw[hb];simp[JdU]);have DJ:(gz (JN t o).got).length=t.nodes.length:=by rw[QB,AO]
    have Cg:(gz (JN t o).got).take t.nodes.length=gz (JN t o).got:=GH om;simp only[go_sem,d1,hpR,Qc,rsO,d0];refine .frz 1 1 (gz (JN t o).got) rfl (KP _) (.drop ?_ ?_)
    ·simp[frz,JK,CV.closed,Jk,DJ]
    ·simp[frz,JK,DJ,Cg];exact wk.refl _
end
theorem refInfer4E (t:Tr)(ht:t.Fit)(h:chk t≠0):Fn Ga 10 [t.cv] (.tup [.rslc 1 [] none,.int .i64 0,.int .i64 (chk t)]):=by
 have hR:=refResolveE t ht h;have e0:(chk t != 0)=true:=by simpa using h
 refine Jgv (vfS c10_ok λN=>?_) rfl rfl;simp only[c10,go_sem,Tr.cv,Tr.row];refine JU hR ?_;simp only[go_sem,e0];exact .frz 1 1 [] rfl rfl (.drop rfl (wk.refl _))
section
variable (t:Tr){a:Int}(he:e≠0)(hI:Fn Ga 9 [t.cv] (.tup [.agg [.nils],.int .i64 a,.int .i64 e]))
include he hI
theorem typOfE:Fn Ga 20 [t.cv,.int .i64 node] (.tup [.nils,.int .i64 e]):=by
 have e0:(e != 0)=true:=by simpa using he
 refine fcS c20_ok λN=>?_
 simp only[c20,go_sem,Tr.cv,Tr.row];refine JU hI ?_;simp only[go_sem,e0]
theorem typSignE:Fn Ga 22 [t.cv,.int .i64 node] (.tup [.nils,.nils,.int .i64 e]):=by
 have e0:(e != 0)=true:=by simpa using he
 refine fcS c22_ok λN=>?_
 simp only[c22,go_sem,Tr.cv,Tr.row];refine JU hI ?_;simp only[go_sem,e0]
theorem typCheckE:Fn Ga 19 [t.cv] (.tup [.int .i64 a,.int .i64 e]):=by
 have e0:(e != 0)=true:=by simpa using he
 refine fcS c19_ok λN=>?_
 simp only[c19,go_sem,Tr.cv,Tr.row];refine JU hI ?_;simp only[go_sem,e0]
end
theorem Jg2 (t:Tr){n:Int}{x:CV}(hx:x=.nils/\n=0\/∃l,x=txV l/\n=(l.length:Int))(hO:Fn Ga 20 [t.cv,.int .i64 node] (.tup [x,.int .i64 e])):Fn Ga 21 [t.cv,.int .i64 node] (.tup [.int .i64 n,.int .i64 e]):=by
 refine fcS c21_ok λN=>?_
 simp only[c21,go_sem,Tr.cv,Tr.row];refine JU hO ?_;rcases hx with ⟨rfl,rfl⟩|⟨l,rfl,rfl⟩
 ·simp only[go_sem]
 ·have hl:(txz l).length=l.length:=KL;simp only[go_sem,txV,hl]
section
variable (t:Tr)(hI:Fn Ga 9 [t.cv] (.tup [.agg [.rslc 1 (gz got) none],.int .i64 0,.int .i64 0]))
include hI
theorem typOfN(hn:node<0\/(t.nodes.length:Int)<=node):Fn Ga 20 [t.cv,.int .i64 node] (.tup [.nils,.int .i64 7]):=by
 refine fcS c20_ok λN=>?_
 simp only[c20,go_sem,Tr.cv,Tr.row];refine JU hI ?_;by_cases h0:node<0
 ·have d0:(node<0)=True:=eq_true h0;simp only[go_sem,d0]
 ·have d0:(node<0)=False:=eq_false h0;have d1:((t.nodes.length:Int)<=node)=True:=J4;simp only[go_sem,d0,d1,Ja]
theorem typOfY (hl:got.length=t.nodes.length)(hi:i<t.nodes.length):Fn Ga 20 [t.cv,.int .i64 (i:Int)] (.tup [txV (Jr got i),.int .i64 0]):=by
 have AO:(gz got).length=got.length:=QB;have hg:=KV (l:=got) (i:=i) om;have d0:((i:Int)<0)=False:=JS;have d1:((t.nodes.length:Int)<=(i:Int))=False:=JS;refine YT c20_ok rfl (by simp[CV.closed,Jk,txV]) (by simp only[Gi,Gh];decide) λN=>?_
 simp only[c20,go_sem,Tr.cv,Tr.row];refine JU hI ?_;simp only[go_sem,d0,d1,Ja,AO,hg,txV];omega
theorem typSignN(hn:node<0\/(t.items.length:Int)<=node):Fn Ga 22 [t.cv,.int .i64 node] (.tup [.nils,.nils,.int .i64 7]):=by
 have Ae:(iz t.items).length=t.items.length:=Jf;refine fcS c22_ok λN=>?_
 simp only[c22,go_sem,Tr.cv,Tr.row];refine JU hI ?_;by_cases h0:node<0
 ·have d0:(node<0)=True:=eq_true h0;simp only[go_sem,d0]
 ·have d0:(node<0)=False:=eq_false h0;have d1:((t.items.length:Int)<=node)=True:=J4;simp only[go_sem,d0,d1,Ae]
end
def mainR (t:Tr):Int:=XG (λc:Int=>(nd t c.toNat).text == [109,97,105,110]) t.items 0
theorem Jdm:(mainR t = -1/\∀j,j<t.items.length->JcD t j=false)\/∃k:Nat,mainR t=k/\k<t.items.length/\JcD t k=true/\∀j,j<k->JcD t j=false:=by
 have key:∀n i,n+i=t.items.length->(∀j,j<i->JcD t j=false)->((XG (λc:Int=>(nd t c.toNat).text == [109,97,105,110]) (t.items.drop i) i = -1/\∀j,j<t.items.length->JcD t j=false)\/∃k:Nat,XG (λc:Int=>(nd t c.toNat).text == [109,97,105,110]) (t.items.drop i) i=k/\k<t.items.length/\JcD t k=true/\∀j,j<k->JcD t j=false):=by
  intro n
  induction n with
  |zero=>intro i hi h;rw[List.drop_eq_nil_of_le om];exact .inl ⟨rfl,λj hj=>h j om⟩
  |succ n ih=>
   intro i hi h;have BL:t.items[i]? = some (t.items.getD i 0):=by rw[Gq,Gs om];rfl
   rw[Xd BL];have hq:JcD t i=((nd t (t.items.getD i 0).toNat).text == [109,97,105,110]):=rfl
   cases hb:((nd t (t.items.getD i 0).toNat).text == [109,97,105,110]) with
   |true=>rw[hb]at hq;exact .inr ⟨i,sM,om,hq,h⟩
   |false=>
    rw[hb]at hq;have:=ih (i+1) om λj hj=>by
     rcases GV j i with h1|h1
     ·exact h j h1
     ·obtain rfl:j=i:=om;exact hq
    simpa using this
 have:=key t.items.length 0 om (λj hj=>by omega);rw[Gf]at this;exact this
def sigOk (t:Tr)(d:Nat):Bool:=decide ((Q3 t d).length<=3) && (Q3 t d).all λa=>a == .str .int
def chkR (t:Tr):Int×Int:=if mainR t<0 then(0,7) else if sigOk t (t.items.getD (mainR t).toNat 0).toNat=true then(0,0) else(t.items.getD (mainR t).toNat 0,11)
theorem strm_tyT {a:TyX}:(tyT a == Xg++[105,110,116])=(a == .str .int):=(JdB (a:=a) (b:=.str .int))
section
variable(g:GoodT t o)(ht:t.Fit)
include g
theorem par_got (hE:(XY t o).2=0)(hb:(JN t o).bad=none){d j:Nat}(hd:d<t.nodes.length)(hk:(nd t d).k=65)(hj:j<(nd t d).n.toNat):Jr (JN t o).got (Ju t d j)=[(Q3 t d).getD j .int]:=by
 obtain⟨a,a1,a2,a3,a4,a5⟩:=Yc g hd hk;change (nd t d).n=a at a1;change a<(nd t d).kids.length at a2;have O0:j<a:=om;have h1:=Jz g hd (i:=j) om;have Cr:(nd t (Ju t d j)).k=64:=by rw[h1.2.2];exact a3 j O0
 obtain⟨l,q1,q2⟩:=(typed_ta g hE hb).1.rule (Ju t d j) om om om;rw[JW,Cr]at q1;have q3:some [tyN t (Ju t (Ju t d j) 0)]=some l:=by simpa [J9]using q1
 rw[q2 (λh=>by have:=h.1;omega)]
 cases q3
 unfold Q3;rw[a1,Gm,Gq,Hy,Hu O0];rfl
theorem any_par (hE:(XY t o).2=0)(hb:(JN t o).bad=none){d:Nat}(hd:d<t.nodes.length)(hk:(nd t d).k=65):((nd t d).kids.take (nd t d).n.toNat).any (λc:Int=>!(Jr (JN t o).got c.toNat == [.str .int])) = !(Q3 t d).all (λa=>a == .str .int):=by
 obtain⟨a,a1,a2,a3,a4,a5⟩:=Yc g hd hk;change (nd t d).n=a at a1;change a<(nd t d).kids.length at a2;have hP:=λ{j:Nat}=>par_got g hE hb hd hk (j:=j)
 have e1:(nd t d).kids.take (nd t d).n.toNat=(Gx a).map λj=>((Ju t d j:Nat):Int):=by
  refine GY (by simp[a1];omega) λj h1 h2=>?_
  simp only[He,Hw]at h2;have:=JC g hd (j:=j) om;rw[Gq,Gs om]at this;simpa using this
 have e2:Q3 t d=(Gx a).map λj=>(Q3 t d).getD j .int:=by
  refine GY (by simp[Q3,a1]) λj h1 h2=>?_
  simp[Gq,Gs h1]
 have e3:(Q3 t d).all (λa=>a == .str .int)=(Gx a).all λj=>(Q3 t d).getD j .int == .str .int:=by
  rw[e2,List.all_map];refine List.all_congr rfl λj=>?_
  rw[<-e2];rfl
 rw[e1,e3,List.any_map,List.not_all_eq_any_not];have key:∀l:LB,(∀j∈l,j<a)->l.any ((λc:Int=>!(Jr (JN t o).got c.toNat == [.str .int]))∘λj=>((Ju t d j:Nat):Int))=l.any λj=>!((Q3 t d).getD j .int == .str .int):=by
  intro l
  induction l with
  |nil=>intro _;rfl
  |cons j l ih=>
   intro h;rw[H5,H5,ih λk hk=>h k (by simp[hk])];have hj:=h j sM;simp only[Function.comp,Gm];rw[hP om]
   congr 2
   rw[GR,beq_iff_eq,beq_iff_eq];exact⟨λh=>(List.cons.inj h).1,λh=>by rw[h]⟩
 exact key _ λj hj=>Gz.1 hj
omit g in
theorem isMainF {c:Nat}(hc:c<t.nodes.length):Fn Ga 40 [.int .i64 (c:Int),.rptr t.row] (.bool ((nd t c).text == [109,97,105,110])):=by
 refine fcS c40_ok λN=>?_
 simp only[c40,go_sem,Tr.row,Ja,JX hc,Nd.cv,Jh9];omega
omit g in
theorem isOtherF{c:Nat}{a:TyX}(hc:c<got.length)(hg:Jr got c=[a]):Fn Ga 42 [.int .i64 (c:Int),.rptr [.rslc 1 (gz got) none]] (.bool (!(a == .str .int))):=by
 have AO:(gz got).length=got.length:=QB;have O7:=KV (l:=got) (i:=c) hc;rw[hg]at O7;have e0:(txz [a]).length=1:=rfl;have e1:(txz [a]).getD 0 []=[S (tyT a)]:=rfl;have e2:=strm_tyT (a:=a);refine YT c42_ok (by simp[Jk,CV.closed,KP]) rfl (by simp only[Gi,Gh];decide) λN=>?_
 simp only[c42,go_sem];refine JH [0,0,0,0,0,0,0,0,0,0] Jm vM ?_;simp only[go_sem,AO,O7,txV,e0,e1,Int.toNat_zero]
 repeat refine anO ?_
 refine Jdx (.inl rfl) (Jcm [105,110,116] vk) ?_;simp only[go_sem,Jh9,e2]
omit g in
theorem containsFI{l1 l2:Lu}{F:IFunc}(l:Lx)(q:Int->Bool)(cap:Option Nat)(hF:Jd Ga f=some F)(CF:Jk l1=true)(CR:Jk l2=true)
  (hq:∀p∈l,Fn Ga f (l1++[.int .i64 p]++l2) (.bool (q p))) (Ad:l.length<=1000000):Fn Ga 44 [.rslc 1 (iz l) cap,.fn f l1 l2] (.bool (l.any q)):=by
 refine Jb c44_ok (by simp[Jk,CV.closed,CF,CR]) rfl λN=>?_
 simp only[c44,go_sem];refine JU (indexFI l q cap hF CF CR hq Ad) ?_;simp only[go_sem,Jaa]
theorem typCheckG(hI:Fn Ga 9 [t.cv] (.tup [.agg [.rslc 1 (gz got) none],.int .i64 0,.int .i64 0]))(kM:got.length=t.nodes.length)(hP:∀{d j:Nat},d<t.nodes.length->(nd t d).k=65->j<(nd t d).n.toNat->Jr got (Ju t d j)=[(Q3 t d).getD j .int])(bP:∀{d:Nat},d<t.nodes.length->(nd t d).k=65->((nd t d).kids.take (nd t d).n.toNat).any (λc:Int=>!(Jr got c.toNat == [.str .int])) = !(Q3 t d).all (λa=>a == .str .int)):Fn Ga 19 [t.cv] (.tup [.int .i64 (chkR t).1,.int .i64 (chkR t).2]):=by
 have Ag:=g.many;have Fb:=g.items;have Ae:(iz t.items).length=t.items.length:=Jf;have e0:((0:Int) != 0)=false:=rfl;refine Jgv (vfS c19_ok λN=>?_) rfl rfl;simp only[c19,go_sem,Tr.cv,Tr.row];refine JU hI ?_;simp only[go_sem,e0,splice];refine Je (id:=0) (z:=2) (els:=[t.row]) rfl rfl ?_;simp only[go_sem,Tr.row,Jv,frz,JK,KC,Kn,Gb,Gc,Gn,Gf,Gd,if_true,GU,if_false];refine Je (id:=1) (z:=1) (els:=[[.rslc 1 (gz got) none]]) rfl (by simp[Jq,CV.closed,KP,Jk]) ?_;simp only[go_sem,Jv,frz,JK,KC,Kn,Gb,Gc,Gn,Gf,Gd,Gg,if_true,GU,if_false];refine JU (indexFI t.items (λc:Int=>(nd t c.toNat).text == [109,97,105,110]) none c40_ok rfl rfl (λc hc=>?_) om) ?_
 ·have:=g.itr hc;obtain⟨d,rfl⟩:∃d:Nat,c=d:=⟨c.toNat,om⟩;rw[Gm];exact isMainF om
 rw[show XG (λc:Int=>(nd t c.toNat).text == [109,97,105,110]) t.items 0=mainR t from rfl];unfold chkR;rcases Jdm (t:=t) with ⟨h1,_⟩|⟨k,h1,h2,h3,_⟩
 ·rw[h1];have d0:((-1:Int)<0)=True:=eq_true vk;rw[if_pos vk];simp only[go_sem,d0];exact .drop rfl (wk.refl _)
 rw[h1,iN7,Gm];have d0:((k:Int)<0)=False:=JS;have Ay:t.items.getD k 0∈t.items:=by rw[Gq,Gs h2];exact GD h2
 have Ar:=JF h2;have EU:=g.itr Ay;have hk:=g.defs _ Ay;obtain⟨d,hd⟩:∃d:Nat,t.items.getD k 0=d:=⟨(t.items.getD k 0).toNat,om⟩;rw[hd]at Ar Ay EU hk|-;rw[Gm];change (nd t d).k=65 at hk;have AU:d<t.nodes.length:=om
 have hA:=bP AU hk;have hQ:=λ{j:Nat}=>hP (j:=j) AU hk
 obtain⟨a,a1,a2,a3,a4,a5⟩:=Yc g AU hk;change (nd t d).n=a at a1;change a<(nd t d).kids.length at a2;have UH:(Q3 t d).length=a:=by unfold Q3;simp[a1]
 unfold sigOk;rw[UH];rw[a1,Gm]at hA hQ;have Ap:(iz (nd t d).kids).length=(nd t d).kids.length:=Jf;by_cases h3:3<a
 ·have d3:((3:Int)<(a:Int))=True:=J4;rw[decide_eq_false (show ¬a<=3 by omega),GG,if_neg vk];simp only[go_sem,d0,d3,Ae,Ar,Ja,JX AU,Nd.cv,splice,a1]
  repeat refine anO ?_
  exact .drop rfl (wk.refl _)
 ·have d3:((3:Int)<(a:Int))=False:=JS;rw[decide_eq_true (show a<=3 by omega),Gu];simp only[go_sem,d0,d3,Ae,Ar,Ja,JX AU,Nd.cv,splice,a1,Ap,G8,Jc8]
  repeat refine anO ?_
  refine Ka (gok rfl) (containsFI ((nd t d).kids.take a) (λc:Int=>!(Jr got c.toNat == [.str .int])) none c42_ok rfl (by simp[Jk,CV.closed,KP]) (λc hc=>?_) (by simp;omega)) ?_
  ·obtain⟨j,hj,rfl⟩:=Ht hc;rw[GX]at hj;have O0:j<a:=om;have iC:=JC g AU (j:=j) om;have BX:=Jz g AU (i:=j) om;rw[List.getElem_take,show (nd t d).kids[j]=((Ju t d j:Nat):Int) by rw[<-iC,Gq,Gs om];rfl,Gm,hQ O0];have e:([(Q3 t d).getD j .int] == [TyX.str .int])=((Q3 t d).getD j .int == .str .int):=by rw[GR,beq_iff_eq,beq_iff_eq];exact⟨λh=>(List.cons.inj h).1,λh=>by rw[h]⟩
   rw[e];exact isOtherF om (hQ O0)
  rw[hA]
  cases Aj:(Q3 t d).all (λa=>a == .str .int) with
  |true=>simp only[go_sem,Gv];exact .drop rfl (wk.refl _)
  |false=>simp only[go_sem,Gw];exact .drop rfl (wk.refl _)
include ht
theorem typCheck (hE:(XY t o).2=0)(hb:(JN t o).bad=none):Fn Ga 19 [t.cv] (.tup [.int .i64 (chkR t).1,.int .i64 (chkR t).2]):=by
 have Ag:=g.many;have Fb:=g.items;have hI:=Yt g ht;have eT:typV t o=.tup [.agg [.rslc 1 (gz (JN t o).got) none],.int .i64 0,.int .i64 0]:=by unfold typV;rw[if_neg (λh=>h hE),hb]
 rw[eT]at hI;exact typCheckG g hI (Je5 g hE) (par_got g hE hb) (any_par g hE hb)
end
theorem refCheck4E (t:Tr){a:Int}(hy:y.closed=true)(he:e≠0)(hF:Fn Ga 10 [t.cv] (.tup [y,.int .i64 a,.int .i64 e])):Fn Ga 23 [t.cv] (.tup [.int .i64 a,.int .i64 e]):=by
 have e0:(e != 0)=true:=by simpa using he
 refine fcS c23_ok λN=>?_
 simp only[c23,go_sem,Tr.cv,Tr.row];refine JU hF ?_;simp only[go_sem,e0]
section
variable(g:GoodT t o)(ht:t.Fit)
include g ht
theorem refCheck4G(hy:y.closed=true)(hF:Fn Ga 10 [t.cv] (.tup [y,.int .i64 0,.int .i64 0])):Fn Ga 23 [t.cv] (.tup [.int .i64 (chkR t).1,.int .i64 (chkR t).2]):=by
 have Ag:=g.many;have Fb:=g.items;have hM:=refMain g (Jdm (t:=t));have Ae:(iz t.items).length=t.items.length:=Jf;refine Jgv (vfS c23_ok λN=>?_) rfl rfl;simp only[c23,go_sem,Tr.cv,Tr.row];refine JU hF ?_;have e0:((0:Int) != 0)=false:=rfl;simp only[go_sem,e0];refine JU hM ?_;unfold chkR;rcases Jdm (t:=t) with ⟨h1,_⟩|⟨k,h1,h2,h3,_⟩
 ·rw[h1];have d0:((-1:Int)<0)=True:=eq_true vk;rw[if_pos vk];simp only[go_sem,d0];exact .drop rfl (wk.refl _)
 ·rw[h1,iN7,Gm];have d0:((k:Int)<0)=False:=JS;have Ay:t.items.getD k 0∈t.items:=by rw[Gq,Gs h2];exact GD h2
  have Ar:=JF h2;have EU:=g.itr Ay;obtain⟨d,hd⟩:∃d:Nat,t.items.getD k 0=d:=⟨(t.items.getD k 0).toNat,om⟩;rw[hd]at Ar Ay EU|-;rw[Gm];have hS:=Jd6 g ht (d:=d) om (g.defs _ Ay);unfold sigOk;generalize Q3 t d=sp at *;generalize XH t d=sr at *;have Ck:(txz sp).length=sp.length:=KL;simp only[go_sem,d0];refine Je (id:=0) (z:=2) (els:=[t.row]) rfl rfl ?_;simp only[go_sem,Tr.row,Jv,frz,JK,KC,Kn,Gb,Gc,Gn,Gf,if_true];refine JH [0,0,0,0,0,0,0,0,0,0,0,0] Jm vM ?_;simp only[go_sem,Ae,Ar]
  repeat refine anO ?_
  refine Jdx (.inl rfl) hS ?_;simp only[go_sem,txV,Ck];by_cases h3:3<sp.length
  ·have d3:((3:Int)<(sp.length:Int))=True:=J4;have eO:(decide (sp.length<=3) && sp.all λa=>a == .str .int)=false:=by rw[decide_eq_false om,GG]
   rw[eO,if_neg vk];simp only[go_sem,d3,Ae,Ar];refine anO ?_;exact .drop rfl (wk.refl _)
  ·have d3:((3:Int)<(sp.length:Int))=False:=JS;have eO:(decide (sp.length<=3) && sp.all λa=>a == .str .int)=sp.all λa=>a == .str .int:=by rw[decide_eq_true om,Gu]
   rw[eO];simp only[go_sem,d3];refine Js (I:=λj:Nat=>j<=sp.length/\(sp.take j).all (λa=>a == .str .int)=true) (inv:=λj=>mkT 59 [(1,.rptr t.row),(7,.int .i64 (k:Int)),(8,.rslc 1 (txz sp) none),(10,.int .i64 (j:Int))]) (hp:=λ_=>[]) (μ:=λj=>sp.length-j) 0 [] ⟨om,rfl⟩ rfl ?_ ?_ ?_
   ·simp only[J2,Gb,Gc,ren,Jl];refine Jt ?_;simp[Km,Kw,Tr.row]
   ·rfl
   ·rintro j ⟨hj,Aj⟩;by_cases Ab:j<sp.length
    ·have d1:=dtT j sp.length;have Bp:=X3 (l:=sp) Ab;have BL:sp[j]? = some (sp.getD j .int):=by rw[Gq,Gs Ab];rfl
     have e2:(tyT (sp.getD j .int) == [115,116,114,101,97,109,32,105,110,116])=(sp.getD j .int == .str .int):=JdB (b:=.str .int)
     cases hb:(sp.getD j .int == .str .int) with
     |true=>
      rw[hb]at e2;simp only[go_sem,Ck,d1,Bp,Jh9,e2,Gv];refine⟨om,Jg,j+1,[],⟨om,?_⟩,om,rfl,rfl,?_⟩
      ·rw[List.take_add_one,BL,Hf,Aj];simpa using hb
      ·simp only[J2,Gb,Gc,ren,Jl];refine Jt ?_;simp[Km,Kw,Tr.row]
     |false=>
      rw[hb]at e2;have eA:(sp.all λa=>a == .str .int)=false:=by rw[GJ];intro h;have:=GA.1 h _ (List.mem_of_getElem? BL);rw[hb]at this;cases this
      rw[eA];simp only[go_sem,Ck,d1,Bp,Jh9,e2,Gw,Ae,Ar,Tr.row,Gi,Gh]
      repeat refine anO ?_
      exact .drop rfl (wk.refl _)
    ·have d1:=dfF j sp.length;rw[GH om]at Aj;rw[Aj,if_pos rfl];simp only[go_sem,Ck,d1];exact .drop rfl (wk.refl _)
theorem refCheck4 (hE:(XY t o).2=0)(hb:(JN t o).bad=none):Fn Ga 23 [t.cv] (.tup [.int .i64 (chkR t).1,.int .i64 (chkR t).2]):=by have hF:=JeR g ht;unfold infV at hF;rw[if_neg (λh=>h hE),hb]at hF;exact refCheck4G g ht (by simp[CV.closed,KP]) hF
end
theorem checkVast (t:Tr){item:Int}(hV:Fn Ga 6 [t.cv] (.bool true)):Fn Ga 5 [t.cv,.int .i64 node,.int .i64 item] (.bool true):=by
 refine fcS c5_ok λN=>?_
 simp only[c5,go_sem,Tr.cv,Tr.row];refine JU hV ?_;simp only[go_sem,Tr.row,splice];refine JU Jfg ?_;simp only[go_sem,splice]
section
variable (t:Tr)(ht:t.Fit)(hV:Fn Ga 6 [t.cv] (.bool false))
include ht hV
theorem Jft{item a:Int}(hy:y.closed=true)(he:e≠0)(hI:Fn Ga 9 [t.cv] (.tup [.agg [.nils],.int .i64 a,.int .i64 e]))(hF:Fn Ga 10 [t.cv] (.tup [y,.int .i64 a,.int .i64 e])):Fn Ga 5 [t.cv,.int .i64 node,.int .i64 item] (.bool true):=by
 have hC:=refCopy t ht;have hA:=refAlike t ht;have hO:=typOfE t (node:=node) he hI;have e0:(e != 0)=true:=by simpa using he
 refine fcS c5_ok λN=>?_
 simp only[c5,go_sem,Tr.cv,Tr.row];refine JU hV ?_;simp only[go_sem,Tr.row,splice,Gi,Gh];refine JU hC ?_;simp only[go_sem,Tr.cv,Tr.row,splice,Gi,Gh];refine JU (typCheckE t he hI) ?_;simp only[go_sem,Tr.cv,Tr.row,splice,Gi,Gh];refine JU hO ?_;simp only[go_sem,Tr.cv,Tr.row,splice,Gi,Gh];refine JU (Jg2 t (n:=0) (.inl ⟨rfl,rfl⟩) hO) ?_;simp only[go_sem,Tr.cv,Tr.row,splice,Gi,Gh];refine JU (typSignE t he hI) ?_;simp only[go_sem,Tr.cv,Tr.row,splice,Gi,Gh];refine JU hF ?_;simp only[go_sem,Tr.cv,Tr.row,splice,Gi,Gh];refine JU (refCheck4E t hy he hF) ?_;simp only[go_sem,Tr.cv,Tr.row,splice,Gi,Gh];refine JU hA ?_;simp only[go_sem,bne_self_eq_false,Gv,beq_self_eq_true,e0]
 repeat refine aN ?_
 refine Ka (gok rfl) Jfg ?_;simp only[go_sem]
end
section
variable(g:GoodT t o)(ht:t.Fit)
include g ht
theorem checkLawG (hV:Fn Ga 6 [t.cv] (.bool false))(hE:(XY t o).2=0)(hb:(JN t o).bad=none){item:Int}:Fn Ga 5 [t.cv,.int .i64 node,.int .i64 item] (.bool true):=by
 have Ag:=g.many;have Fb:=g.items;have hC:=refCopy t ht;have hA:=refAlike t ht;have hI:=Yt g ht;have hF:=JeR g ht;have AO:=Je5 g hE;have Bb:=infer_ln ht (o:=o);unfold typV at hI;unfold infV at hF;rw[if_neg (λh=>h hE),hb]at hI hF;have hK:=typCheck g ht hE hb;have hQ:=refCheck4 g ht hE hb;have Ae:(iz t.items).length=t.items.length:=Jf;have DJ:(gz (JN t o).got).length=t.nodes.length:=by rw[QB,AO]
 obtain⟨p,r,h,hS,Ma⟩:∃(p r:CV) (h:Int),Fn Ga 22 [t.cv,.int .i64 item] (.tup [p,r,.int .i64 h])/\(((item<0\/(t.items.length:Int)<=item)/\p=.nils/\r=.nils/\h=7)\/∃i d:Nat,item=i/\i<t.items.length/\t.items.getD i 0=d/\d<t.nodes.length/\(nd t d).k=65/\p=txV (Q3 t d)/\r=txV (XH t d)/\h=0):=by
  by_cases hn:item<0\/(t.items.length:Int)<=item
  ·exact⟨_,_,_,typSignN t hI hn,.inl ⟨hn,rfl,rfl,rfl⟩⟩
  ·obtain⟨i,rfl⟩:∃i:Nat,item=i:=⟨item.toNat,om⟩;have hi:i<t.items.length:=om;have Ay:t.items.getD i 0∈t.items:=by rw[Gq,Gs hi];exact GD hi
   have hr:=g.itr Ay;obtain⟨d,hd⟩:∃d:Nat,t.items.getD i 0=d:=⟨(t.items.getD i 0).toNat,om⟩;have hk:=g.defs _ Ay;rw[hd]at hr hk;exact⟨_,_,_,typSign g ht hE hb hi hd,.inr ⟨i,d,rfl,hi,hd,om,hk,rfl,rfl,rfl⟩⟩
 obtain⟨x,f,n,hO,Ug,Cc⟩:∃(x:CV) (f n:Int),Fn Ga 20 [t.cv,.int .i64 node] (.tup [x,.int .i64 f])/\Fn Ga 21 [t.cv,.int .i64 node] (.tup [.int .i64 n,.int .i64 f])/\(((node<0\/(t.nodes.length:Int)<=node)/\x=.nils/\n=0/\f=7)\/∃j:Nat,node=j/\j<t.nodes.length/\x=txV (Jr (JN t o).got j)/\n=((Jr (JN t o).got j).length:Int)/\f=0):=by
  by_cases hn:node<0\/(t.nodes.length:Int)<=node
  ·have:=typOfN t hI hn;exact⟨_,_,_,this,Jg2 t (.inl ⟨rfl,rfl⟩) this,.inl ⟨hn,rfl,rfl,rfl⟩⟩
  ·obtain⟨j,rfl⟩:∃j:Nat,node=j:=⟨node.toNat,om⟩;have:=typOfY t hI AO (i:=j) om;exact⟨_,_,_,this,Jg2 t (.inr ⟨_,rfl,rfl⟩) this,.inr ⟨j,rfl,om,rfl,rfl,rfl⟩⟩
 refine fcS c5_ok λN=>?_
 simp only[c5,go_sem,Tr.cv,Tr.row];refine JU hV ?_;simp only[go_sem,Tr.row,splice,Gi,Gh];refine JU hC ?_;simp only[go_sem,Tr.cv,Tr.row,splice,Gi,Gh];refine JU hK ?_;simp only[go_sem,Tr.cv,Tr.row,splice,Gi,Gh];refine JU hO ?_;simp only[go_sem,Tr.cv,Tr.row,splice,Gi,Gh];refine JU Ug ?_;simp only[go_sem,Tr.cv,Tr.row,splice,Gi,Gh];refine JU hS ?_;simp only[go_sem,Tr.cv,Tr.row,splice,Gi,Gh];refine JU hF ?_;simp only[go_sem,Tr.cv,Tr.row,splice,Gi,Gh];refine JU hQ ?_;simp only[go_sem,Tr.cv,Tr.row,splice,Gi,Gh];refine JU hA ?_;have AL:=λ(l:TL) (hl:l.length<=100000)=>Jea l l hl
 simp only[beq_self_eq_true]at AL;have ai:∀{x:Int} {n:Nat},(x<0\/(n:Int)<=x)->((x<0)=True/\((n:Int)<=x)=False)\/((x<0)=False/\((n:Int)<=x)=True):=λ{x n} h=>by
  by_cases h0:x<0
  ·exact .inl ⟨eq_true h0,JS⟩
  ·exact .inr ⟨eq_false h0,J4⟩
 rcases Ma with ⟨hi,rfl,rfl,rfl⟩|⟨i,d,rfl,hi,hd,AU,hk,rfl,rfl,rfl⟩
 ·rcases ai hi with ⟨di0,di1⟩|⟨di0,di1⟩
  all_goals
   rcases Cc with ⟨hn,rfl,rfl,rfl⟩|⟨j,rfl,hj,rfl,rfl,rfl⟩
   ·rcases ai hn with ⟨dn0,dn1⟩|⟨dn0,dn1⟩
    all_goals
     simp only[go_sem,bne_self_eq_false,beq_self_eq_true,Gv,Tr.row,dn0,dn1,di0,di1,Ja,Ae,DJ,Gi,Gh]
     repeat refine aN ?_
     refine Ka (gok rfl) Jfg ?_;simp only[go_sem]
   ·have dn0:((j:Int)<0)=False:=JS;have dn1:((t.nodes.length:Int)<=(j:Int))=False:=JS;have R9:=KV (l:=(JN t o).got) (i:=j) om;have Cu:=Bb j;have CG:(txz (Jr (JN t o).got j)).length=(Jr (JN t o).got j).length:=KL;simp only[go_sem,bne_self_eq_false,beq_self_eq_true,Gv,Tr.row,dn0,dn1,di0,di1,Ja,Ae,DJ,Gi,Gh,R9,CG,txV]
    repeat refine aN ?_
    refine Ka (gok rfl) (AL _ om) ?_;simp only[go_sem,bne_self_eq_false,beq_self_eq_true,Gv,Tr.row,dn0,dn1,di0,di1,Ja,Ae,DJ,Gi,Gh,CG]
    repeat refine aN ?_
    refine Ka (gok rfl) Jfg ?_;simp only[go_sem]
 ·have di0:((i:Int)<0)=False:=JS;have di1:((t.items.length:Int)<=(i:Int))=False:=JS;have hR:=Jd6 g ht AU hk;have Ar:=JF hi;rw[hd]at Ar;have Z0:(Q3 t d).length<=100000:=by obtain⟨a,a1,a2,_⟩:=Yc g AU hk;change (nd t d).n=a at a1;change a<(nd t d).kids.length at a2;have:=(JbM ht AU).kidn;unfold Q3;simp[a1];omega
  have ZO:(XH t d).length<=100000:=by have:=(JbM ht AU).kidn;unfold XH;simp;omega
  rcases Cc with ⟨hn,rfl,rfl,rfl⟩|⟨j,rfl,hj,rfl,rfl,rfl⟩
  rotate_left
  focus
   have dn0:((j:Int)<0)=False:=JS;have dn1:((t.nodes.length:Int)<=(j:Int))=False:=JS;have R9:=KV (l:=(JN t o).got) (i:=j) om;have Cu:=Bb j;have CG:(txz (Jr (JN t o).got j)).length=(Jr (JN t o).got j).length:=KL;simp only[go_sem,bne_self_eq_false,beq_self_eq_true,Gv,Tr.row,dn0,dn1,di0,di1,Ja,Ae,DJ,Gi,Gh,R9,CG,txV]
   repeat refine aN ?_
   refine Ka (gok rfl) (AL _ om) ?_;simp only[go_sem,bne_self_eq_false,beq_self_eq_true,Gv,Tr.row,dn0,dn1,di0,di1,Ja,Ae,DJ,Gi,Gh,CG]
  rotate_left
  focus
   rcases ai hn with ⟨dn0,dn1⟩|⟨dn0,dn1⟩
   all_goals
    simp only[go_sem,bne_self_eq_false,beq_self_eq_true,Gv,Tr.row,dn0,dn1,di0,di1,Ja,Ae,DJ,Gi,Gh]
  all_goals
   refine Je (id:=0) (z:=2) (els:=[t.row]) rfl rfl ?_;simp only[go_sem,Tr.row,Jv,frz,JK,KC,Kn,Gb,Gc,Gn,Gf,Gd,if_true,GU,if_false];refine JH [0,0,0,0,0,0,0,0,0,0,0,0] Jm vM ?_;simp only[go_sem,Ae,Ar]
   repeat refine aN ?_
   refine Jdx (.inl rfl) hR ?_;simp only[go_sem,beq_self_eq_true];refine Ka (gok rfl) (AL _ Z0) ?_;simp only[go_sem];refine Ka (gok rfl) (AL _ ZO) ?_;simp only[go_sem];refine Ka (gok rfl) Jfg ?_;simp only[go_sem]
theorem checkAllG (hV:Fn Ga 6 [t.cv] (.bool false)){item:Int}:Fn Ga 5 [t.cv,.int .i64 node,.int .i64 item] (.bool true):=by
 have hI:=Yt g ht;have hF:=JeR g ht;unfold typV at hI;unfold infV at hF;by_cases hE:(XY t o).2=0
 ·cases hb:(JN t o).bad with
  |none=>exact checkLawG g ht hV hE hb
  |some i=>rw[if_neg (λh=>h hE),hb]at hI hF;exact Jft t ht hV rfl vk hI hF
 ·rw[if_pos hE]at hI hF;exact Jft t ht hV rfl hE hI hF
end
theorem checkAll (t:Tr)(ty:t.Ty)(node:Int)(_:InR .i64 node)(item:Int)(_:InR .i64 item):Fn Ga 5 [t.cv,.int .i64 node,.int .i64 item] (.bool true):=by
 have hV:=lawVast4 t
 cases hv:JdA t with
 |true=>rw[hv]at hV;exact checkVast t hV
 |false=>
  rw[hv]at hV;have ht:=ty.fit3 hv;by_cases h:chk t=0
  ·obtain⟨o,g⟩:=(Jei t).1 h;exact checkAllG g ht hV
  ·exact Jft t ht hV rfl h (typInferE t ht h) (refInfer4E t ht h)
end Go.Cm
end
end
