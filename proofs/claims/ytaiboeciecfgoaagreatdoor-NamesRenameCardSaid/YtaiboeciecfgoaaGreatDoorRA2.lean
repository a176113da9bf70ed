/-
  A part of the proof. Conditions: none.
-/
import Derived.Test.YtaiboeciecfgoaaGreatDoorRA1
set_option linter.unusedSimpArgs false
set_option linter.unusedVariables false
open List renaming getElem?_eq_some_iff→Gd,getElem?_append_left→Gf,getElem?_append_right→Gj,length_append→Gi,eq_nil_of_length_eq_zero→Gn,getElem?_take_of_lt→Gl,getElem?_eq_getElem→Gp,getElem?_of_mem→Gm,getElem?_drop→Gq,getElem?_toArray→Gs,append_assoc→Gt,replicate→Gr,getElem?_eq_none→Gy,length_take→Gu,mem_append→Gv,getElem?_set→Gz,mem_of_mem_take→GD,getElem?_take→GG,ext_getElem?→GH,getElem?_cons_zero→GL,length_replicate→GM,getD→GA,mem_of_mem_drop→GN,mem_of_getElem?→GQ,mem_replicate→GR,size_toArray→GU,length_drop→GV,take_zero→GX
open Nat renaming mul_le_mul_right→Gg,add_mul→Gc,le_refl→Gh,zero_add→Gw,one_mul→Gx,le_trans→GI,add_zero→GJ,strongRecOn→GY,zero_mul→GZ,lt_or_ge→G5
open Array renaming mem_of_getElem?→G6,getElem?_toList→G7,replicate→G8,range→G9,ext'→Ha
open Option.some renaming injEq→Ga
open Prod.mk renaming injEq→Gb
open Option renaming bind_some→GK,isSome_iff_ne_none→Hd
noncomputable section
section
namespace Go.Cm
section
section
variable {P:Program}{E:Env}{n0:Nat}{m:Bk}{H H':List CObj}{w:World}{T:List CV}{a:Act}{c:Cond}{v:CV}{o:Oper}
def Xt (own:List Own) (imm:Nat→Nat→Option Value) (z:Nat) (els:List (List CV)) (vs:List Value):Prop:=(∀ e∈els,e.length=z)∧JE own imm els.flatten vs
theorem Xt.relO {own:List Own}{imm:Nat→Nat→Option Value}{z:Nat}{els:List (List CV)}{vs:List Value}(h:Xt own imm z els vs) {R:Nat→Option Value}{o:Nat}(hR:∀ (i:Nat) v,vs[i]? = some v→R (o+i)=some v):relO own imm z els R o:=
 relO_flat els o R h.1 fun i c hc=>let ⟨v,hv,hr⟩:=Xj h.2 hc; ⟨v,hR i v hv,hr⟩
theorem Xt.len {own:List Own}{imm:Nat→Nat→Option Value}{z:Nat}{els:List (List CV)}{vs:List Value}(h:Xt own imm z els vs):vs.length=els.length*z:=by
 rw[← JaY els h.1,Ju h.2]
theorem Xt.append {own:List Own}{imm:Nat→Nat→Option Value}{z:Nat}{els els':List (List CV)}{vs vs':List Value}(h:Xt own imm z els vs) (h':Xt own imm z els' vs'):Xt own imm z (els++els') (vs++vs'):=
 ⟨fun e he=>by rcases Gv.1 he with h1 | h1; exact h.1 e h1; exact h'.1 e h1,by rw[List.flatten_append]; exact Qf h.2 h'.2⟩
theorem Yj {own:List Own}{imm:Nat→Nat→Option Value}{z:Nat}:∀ {els:List (List CV)}{R:Nat→Option Value}{o:Nat},relO own imm z els R o→∃ vs,Xt own imm z els vs∧∀ (i:Nat) v,vs[i]? = some v→R (o+i)=some v:=by
 intro els R o h
 obtain ⟨hz,hf⟩:=flat_relO els o R h
 have key:∀ (l:List CV) (o:Nat),(∀ (i:Nat) c,l[i]? = some c→∃ r,R (o+i)=some r∧rel own imm c r)→∃ vs,JE own imm l vs∧∀ (i:Nat) v,vs[i]? = some v→R (o+i)=some v:=by
  intro l
  induction l with
  |nil=>intro o _; exact ⟨[],by simp[JE],fun i v hv=>by simp at hv⟩
  |cons c l ih=>
   intro o h
   obtain ⟨r,hr,hrel⟩:=h 0 c rfl
   obtain ⟨vs,h1,h2⟩:=ih (o+1) (fun i d hd=>by have:=h (i+1) d (by simpa using hd); rw[show o+(i+1)=o+1+i by omega]at this; exact this)
   refine ⟨r::vs,by simp only[JE]; exact ⟨r,vs,rfl,hrel,h1⟩,fun i v hv=>?_⟩
   cases i with
   |zero=>simp at hv; subst hv; simpa using hr
   |succ i=>simp at hv; have:=h2 i v hv; rw[show o+(i+1)=o+1+i by omega]; exact this
 obtain ⟨vs,h1,h2⟩:=key _ o hf
 exact ⟨vs,⟨hz,h1⟩,h2⟩
theorem JdI {own:List Own}{imm:Nat→Nat→Option Value}{z:Nat}{els:List (List CV)}{R:Nat→Option Value}{o:Nat}(h:Qv imm z els R o):relO own imm z els R o:=
 fun j e he=>⟨((KC _ _).1 h j e he).1,fun t c hc=>let ⟨r,h1,h2⟩:=((KC _ _).1 h j e he).2 t c hc; ⟨r,h1,rel_weak h2⟩⟩
theorem relO_sub {own:List Own}{imm:Nat→Nat→Option Value}{z:Nat}{els:List (List CV)}{R:Nat→Option Value}{o:Nat}(h:relO own imm z els R o) (d:Nat):relO own imm z (els.drop d) R (o+d*z):=by
 intro j e he
 rw[Gq]at he
 have:=h _ e he
 rw[Gc]at this
 refine ⟨this.1,fun t c hc=>?_⟩
 rw[show o+d*z+j*z+t=o+(d*z+j*z)+t by omega]
 exact this.2 t c hc
theorem relO_take {own:List Own}{imm:Nat→Nat→Option Value}{z:Nat}{els:List (List CV)}{R:Nat→Option Value}{o:Nat}(h:relO own imm z els R o) (n:Nat):relO own imm z (els.take n) R o:=by
 intro j e he
 rw[GG]at he
 split at he
 ·exact h j e he
 ·cases he
theorem Jek {z:Nat}{x:CV}{xv:Value}{xs:List (List CV)}(hs:Sim E m H w) (hx:rel m.own m.imm x xv) (he:JcX H z x=some xs) :
  ∃ news:List Value,Xt m.own m.imm z xs news∧(∀ w,(Builtin.lenOf xv).run P w=.ok xs.length w)∧(∀ n,n≤xs.length→∀ w',w'.heap=w.heap→(Builtin.firstCells z n xv).run P w'=.ok (news.take (n*z)).toArray w')∧(∀ v∈news,v.oneCell'=true):=by
 have rd:∀ (B o len cap:Nat) (els:List (List CV)) (news:List Value),xv=.slice (some ⟨B,o,none⟩) len cap→Xt m.own m.imm z els news→(∀ (i:Nat) v,news[i]? = some v→w.cell? ⟨B,o+i,none⟩=some v)→∀ n,n≤els.length→∀ w',w'.heap=w.heap→(Builtin.firstCells z n xv).run P w'=.ok (news.take (n*z)).toArray w':=by
  intro B o len cap els news hxv hok hc n hn w' hw
  rw[hxv]
  have hmul:n*z≤els.length*z:=Gg z hn
  refine run_firstCells_some w' z n ⟨B,o,none⟩ len cap (news.take (n*z)) (by rw[Gu,hok.len]; omega) (fun j v hv=>?_)
  rw[GG]at hv
  split at hv
  ·rw[addr_add]; exact (cell?_congr (by rw[hw])).trans (hc j v hv)
  ·cases hv
 cases x with
 |nils=>
  simp[JcX]at he; subst he
  simp only[rel]at hx; subst hx
  exact ⟨[],⟨by simp,by simp[JE]⟩,fun w=>by simp[Builtin.lenOf],fun n _ w' _=>by simp[Builtin.firstCells],by simp⟩
 |slc id off len cap=>
  simp only[JcX]at he
  simp only[rel]at hx
  obtain ⟨x',ba,rc,hx',rfl,hlc,hcap,hba,hle⟩:=hx
  split at he
  ·rename_i z' els hH
   split at he
   ·rename_i hzz
    obtain ⟨rfl,hol⟩:=hzz
    cases he
    obtain ⟨hz,cells,elem,hb,hsz,hle',hrow,hcone⟩:=hs.obj id _ x' hH hx'
    have hrow2:=relO_take (relO_sub hrow off) len
    rw[hz]at hrow2
    obtain ⟨news,hok,hR⟩:=Yj hrow2
    have hlen:((els.drop off).take len).length=len:=by simp; omega
    refine ⟨news,hok,fun w=>by simp[Builtin.lenOf,hlen],fun n hn w' hw=>?_,fun v hv=>by
     obtain ⟨i,hi⟩:=Gm hv
     exact hcone _ v (hR i v hi)⟩
    by_cases h0:rc=0
    ·have:len=0:=by omega
     subst this
     have hn:news=[]:=Gn (by rw[hok.len,hlen]; simp)
     subst hn
     have:n=0:=by rw[hlen]at hn; omega
     subst this
     simp[Builtin.firstCells,loadCells,loadCellsFrom]
    ·have:=hba h0
     subst this
     have:=rd x'.B (x'.o+off*x'.z) len rc ((els.drop off).take len) news rfl hok (fun i v hv=>by
      have:=hR i v hv
      rw[hz]; simp only[World.cell?,hb]; simpa using this) n hn w' hw
     exact this
   ·cases he
  ·cases he
 |rslc z' els cap=>
  simp only[JcX]at he
  simp only[rel]at hx
  rcases hx with ⟨_,rfl,b,rfl⟩ | ⟨B,q,rc,rfl,hlc,hcap,hrow⟩
  ·split at he
   ·cases he
    exact ⟨[],⟨by simp,by simp[JE]⟩,fun w=>by simp[Builtin.lenOf],fun n hn w' _=>by
     have:n=0:=by simpa using hn
     subst this
     cases b <;> simp[Builtin.firstCells,loadCells,loadCellsFrom],by simp⟩
   ·cases he
  split at he
  ·rename_i hz
   subst hz
   cases he
   obtain ⟨news,hok,hR⟩:=Yj (JdI (own:=m.own) hrow)
   exact ⟨news,hok,fun w=>by simp[Builtin.lenOf],fun n hn w' hw=>rd B q _ rc xs news rfl hok (fun i v hv=>hs.imm _ _ _ (hR i v hv)) n hn w' hw,fun v hv=>by
    obtain ⟨i,hi⟩:=Gm hv
    exact hs.one _ _ v (hR i v hi)⟩
  ·cases he
 |str s=>
  simp only[JcX]at he
  simp only[rel]at hx; subst hx
  split at he
  ·rename_i hz; subst hz
   cases he
   refine ⟨s.data.toList.map fun b=>.int .u8 b.toNat,⟨by simp,?_⟩,fun w=>by simp[Builtin.lenOf],fun n hn w' _=>?_,fun v hv=>by
    obtain ⟨b,_,rfl⟩:=List.mem_map.1 hv; rfl⟩
   ·have:(s.data.toList.map fun b=>[CV.int .u8 (b.toNat:Int)]).flatten=s.data.toList.map fun b=>CV.int .u8 (b.toNat:Int):=by
     induction s.data.toList with
     |nil=>rfl
     |cons b l ih=>simp[ih]
    rw[this,QY]
    refine ⟨by simp,fun i c v hc hv=>?_⟩
    rw[List.getElem?_map]at hc hv
    cases hb:s.data.toList[i]? with
    |none=>simp[hb]at hc
    |some b=>simp[hb]at hc hv; subst hc; subst hv; rfl
   ·simp only[Builtin.firstCells,Sem.run_pure,ByteArray.data_extract]
    congr 1
    apply Ha
    simp[List.map_take]
  ·cases he
 |_=>simp[JcX]at he
set_option maxHeartbeats 1000000 in
theorem run_grow {t u ty e:TypeId}{du:TypeDesc}{i:TypeInfo}{zv:Value}{sb:Option Addr}{sLen sCap n:Nat}{xv:Value}{olds news:List Value}(hd:P.underlying t=some (.slice e)) (hu:P.underlying u=some du) (hdu:(∃ k,du=.slice k)∨du=.string) (hi:P.info? e=some i) (hz:i.zero=some zv)
  (hlen:∀ w,(Builtin.lenOf xv).run P w=.ok n w) (hn:∀ w',w'.heap=w.heap→(Builtin.firstCells i.size n xv).run P w'=.ok news.toArray w') (ho:∀ w',w'.heap=w.heap→(Builtin.firstCells i.size sLen (.slice sb sLen sCap)).run P w'=.ok olds.toArray w')
  (hg:sCap < sLen+n) (h63:sLen+n≤140737488355328) (hroom:(sLen+n)*i.bytes≤140737488355328) :
  ∃ cap,sLen+n≤cap∧(Builtin.append_ #[t,u] ty #[.slice sb sLen sCap,xv]).run P w =
   .ok (.slice (some ⟨w.heap.size,0,none⟩) (sLen+n) cap) (w.drew.alloc (.cells (olds.toArray++news.toArray++Builtin.zeroCells zv.cells (cap-(sLen+n))) e)):=by
 have hfit:=growslice_fits (bytes:=i.bytes) hg hroom
 refine ⟨grownCap w (sLen+n) sCap e,by simp[grownCap,Question.cut],?_⟩
 have hng:¬ (sLen+n≤sCap):=by omega
 have h63':¬ (9223372036854775807 < ((sLen:Int)+(n:Int))):=by omega
 have h48':¬ (281474976710656 < Builtin.nextslicecap (sLen+n) sCap*i.bytes):=by omega
 have hf:=hn w.drew rfl
 have hfo:=ho w.drew rfl
 rcases hdu with ⟨k,rfl⟩ | rfl
 all_goals
  simp[Builtin.append_,run_underlying hd,run_underlying hu,sizeOf,typeInfo,zeroValue,hi,hz,hlen,hng,h63',h48',Question.forced,hf,hfo,newRow,grownCap]
  congr 2
  apply Ha
  simp[Gt]
set_option maxHeartbeats 1000000 in
theorem run_room {t u ty e e':TypeId}{du:TypeDesc}{i:TypeInfo}{g o' sLen sCap n:Nat}{xv:Value}{cur:Array Value}{news:List Value}(hd:P.underlying t=some (.slice e)) (hu:P.underlying u=some du) (hdu:(∃ k,du=.slice k)∨du=.string) (hi:P.info? e=some i)
  (hlen:∀ w,(Builtin.lenOf xv).run P w=.ok n w) (hn:(Builtin.firstCells i.size n xv).run P w=.ok news.toArray w) (hg:w.heap[g]? = some (.cells cur e' (0,0))) (hroom:sLen+n≤sCap) (hfit:o' + sLen*i.size+news.length≤cur.size) (h1:∀ u∈news,u.oneCell'=true) :
  (Builtin.append_ #[t,u] ty #[.slice (some ⟨g,o',none⟩) sLen sCap,xv]).run P w =
   .ok (.slice (some ⟨g,o',none⟩) (sLen+n) sCap) (w.setRow g (cur.toList.take (o' + sLen*i.size)++news++cur.toList.drop (o' + sLen*i.size+news.length)).toArray):=by
 have hst:=run_storeCells_at P g (o' + sLen*i.size) e' news 0 cur w hg (by simpa using hfit) h1
 simp only[GJ]at hst
 rcases hdu with ⟨k,rfl⟩ | rfl
 all_goals simp[Builtin.append_,run_underlying hd,run_underlying hu,sizeOf,typeInfo,hi,hlen,hroom,hn,addr_add,hst]
set_option maxHeartbeats 1000000 in
theorem JdD {t u ty e:TypeId}{du:TypeDesc}{i:TypeInfo}{sb:Option Addr}{sLen sCap:Nat}{xv:Value}(hd:P.underlying t=some (.slice e)) (hu:P.underlying u=some du) (hdu:(∃ k,du=.slice k)∨du=.string) (hi:P.info? e=some i)
  (hlen:∀ w,(Builtin.lenOf xv).run P w=.ok 0 w) (hn:(Builtin.firstCells i.size 0 xv).run P w=.ok #[] w) (hle:sLen≤sCap) :
  (Builtin.append_ #[t,u] ty #[.slice sb sLen sCap,xv]).run P w=.ok (.slice sb sLen sCap) w:=by
 rcases hdu with ⟨k,rfl⟩ | rfl
 all_goals (cases sb <;> simp[Builtin.append_,run_underlying hd,run_underlying hu,sizeOf,typeInfo,hi,hlen,hle,hn,storeCells])
theorem Sim.adopt (hs:Sim E m H w) (x:Own) (ob:CObj) (hnew:∀ (k:Nat) o' x',H[k]? = some o'→o'.alive=true→m.own[k]? = some x'→x'.B≠x.B) (hro:∀ i,x.o≤i→m.imm x.B i=none) (hext:¬ (m.ext x.B∨x.B < gN))
  (hobj:Y0 (m.own++[x]) m.imm x ob w) (hne:∀ s b,ob≠.ext s b):Sim E { m with own:=m.own++[x] } (H++[ob]) w:=by
 have key:∀ (k:Nat) o1 x1,(H++[ob])[k]? = some o1→(m.own++[x])[k]? = some x1→(k < H.length∧H[k]? = some o1∧m.own[k]? = some x1)∨(k=H.length∧o1=ob∧x1=x):=by
  intro k o1 x1 hk hx
  by_cases hlt:k < H.length
  ·rw[Gf hlt]at hk
   rw[Gf (by rw[hs.len]; exact hlt)]at hx
   exact .inl ⟨hlt,hk,hx⟩
  ·have hk1:k < (H++[ob]).length:=(Gd.1 hk).1
   have:k=H.length:=by simp at hk1; omega
   subst this
   rw[← hs.len]at hx
   simp at hx hk
   exact .inr ⟨rfl,hk.symm,hx.symm⟩
 refine ⟨by simp[hs.len],fun k o1 x1 hk hx=>?_,hs.imm,hs.one,fun k k' o1 o2 x1 x2 hk hk' ha ha' hx hx' he=>?_,fun k o1 x1 hk ha hx=>?_,fun k s b hk=>?_,fun k o1 x1 hk ha hx=>?_,hs.extlt,hs.gl⟩
 ·rcases key k o1 x1 hk hx with ⟨_,h1,h2⟩ | ⟨_,rfl,rfl⟩
  ·exact Kh (Kg.append _ _) (J5.refl _) (fun _=>rfl) (hs.obj k o1 x1 h1 h2)
  ·exact hobj
 ·rcases key k o1 x1 hk hx with ⟨_,h1,h2⟩ | ⟨e1,rfl,rfl⟩ <;> rcases key k' o2 x2 hk' hx' with ⟨_,h3,h4⟩ | ⟨e2,rfl,rfl⟩
  ·exact hs.sep k k' o1 o2 x1 x2 h1 h3 ha ha' h2 h4 he
  ·exact absurd he (hnew k o1 x1 h1 ha h2)
  ·exact absurd he.symm (hnew k' o2 x2 h3 ha' h4)
  ·omega
 ·rcases key k o1 x1 hk hx with ⟨_,h1,h2⟩ | ⟨_,rfl,rfl⟩
  ·exact hs.ro k o1 x1 h1 ha h2
  ·exact hro
 ·by_cases hlt:k < H.length
  ·rw[Gf hlt]at hk
   exact hs.ext k s b hk
  ·have hk1:k < (H++[ob]).length:=(Gd.1 hk).1
   have:k=H.length:=by simp at hk1; omega
   subst this
   simp at hk
   exact (hne s b hk).elim
 ·rcases key k o1 x1 hk hx with ⟨_,h1,h2⟩ | ⟨_,rfl,rfl⟩
  ·exact hs.extsep k o1 x1 h1 ha h2
  ·exact hext
theorem good_of_kill {s:Sem Next}{k:Nat}(h:Good P E n0 m (H.set k .dead) w s v H'):Good P E n0 m H w s v H':=by
 obtain ⟨m',w',r,nx,h1,h2,h3,h4⟩:=h
 exact ⟨m',w',r,nx,h1,h2,(Ext.kill n0 m H w k).trans h3,h4⟩
theorem good_grow {s:Sem Next}{cells:Array Value}{elem:TypeId}{z len cap:Nat}{els:List (List CV)}(hs:Sim E m H w) (h:s.run P w=.ok (.value (.slice (some ⟨w.heap.size,0,none⟩) len cap)) (w.drew.alloc (.cells cells elem)))
  (hlen:els.length=len) (hcap:len≤cap) (hsz:cells.size=cap*z) (hc:relO m.own m.imm z els (fun i=>cells[i]?) 0) (h1:∀ (i:Nat) v,cells[i]? = some v→v.oneCell'=true):Good P E n0 m H w s (.slc H.length 0 len none) (H++[.arr z els]):=by
 have hs':Sim E m H w.drew:=hs.congr rfl
 have hx:(⟨w.heap.size,0,cells.size,z⟩:Own).B=w.drew.heap.size:=rfl
 refine ⟨{ m with own:=m.own++[⟨w.heap.size,0,cells.size,z⟩] },_,_,_,h,.inl rfl,(Ext.congr (w:=w) (w':=w.drew) rfl ⟨rfl,rfl,rfl⟩).trans (Ext.alloc (w':=w.drew.alloc (.cells cells elem)) hs' rfl ⟨rfl,rfl,rfl⟩ _ _ hx),?_,?_,Kg.append _ _⟩
 ·refine hs'.alloc (w':=w.drew.alloc (.cells cells elem)) rfl _ _ hx (fun _=>⟨rfl,cells,elem,heap_alloc_new w.drew _,rfl,?_,Jaa (Kg.append _ _) (J5.refl _) hc,h1⟩) (by intro s b h; cases h)
  simp only[hsz,Gw,hlen]; exact Gg _ hcap
 ·simp only[rel]
  exact ⟨_,_,_,last_own hs _,rfl,hcap,by simp,fun _=>by simp,by simp[hsz]⟩
theorem Jbq {own:List Own}{imm:Nat→Nat→Option Value}{z:List CV}{zv:Array Value}(hz:JE own imm z zv.toList) (h1:KX z=true) (h0:z.length≠0) {N:Nat}:∀ v∈(Builtin.zeroCells zv N).toList,v.oneCell'=true:=by
 intro v hv
 obtain ⟨i,hi⟩:=Gm hv
 have h2:(Builtin.zeroCells zv N)[i]? = some v:=by simpa using hi
 exact JbQ hz h1 h0 (N:=N*zv.size) i v h2
theorem Je2 {t u e:TypeId}{du:TypeDesc}{z:List CV}{i:TypeInfo}{cl:Call}{so xo:Operand}{is ix:IArg}(ho:o.op=.call cl) (hcal:cl.callee=.builtin .append) (hty:cl.argTypes.toList=[t,u]) (hargs:cl.args.toList=[so,xo]) (hd:P.underlying t=some (.slice e)) (hu:P.underlying u=some du) (hdu:(∃ k,du=.slice k)∨du=.string)
  (hz:zeroOf P e=some z) (hi:P.info? e=some i) (h0:z.length≠0) (hso:Jv so=some is) (hxo:Jv xo=some ix) (he:exec (.append z.length i.bytes is ix) T H=some (c,v,H')) (hc:c.holds) (hp:Pre E n0 m H w T a):Good P E n0 m H w (execOp a.eval o) v H':=by
 have hS:=Jy hp.tmps hso
 have hX:=Jy hp.tmps hxo
 obtain ⟨i',zv,hi',hzv,hrunz,hrelz,hlenz,h1z⟩:=QW (P:=P) (w:=w) hz
 rw[hi]at hi'; cases hi'
 have hty':cl.argTypes=#[t,u]:=by cases hh:cl.argTypes; simp_all
 have hargs':cl.args=#[so,xo]:=by cases hh:cl.args; simp_all
 have hrun:∀ (r:Value) w',(Builtin.append_ #[t,u] o.type #[a.eval so,a.eval xo]).run P w=.ok r w'→(execOp a.eval o).run P w=.ok (.value r) w':=by
  intro r w' hr
  simp[execOp,ho,resolve,hcal,invoke,builtin,hty',hargs',hr]
 have hzl:=Ju (hrelz m.own m.imm)
 have hzn:zv.cells.size=i.size:=by simp at hzl; omega
 simp only[exec]at he
 split at he
 ·rename_i xs hxs
  obtain ⟨news,hok,hlen,hfc,hnone⟩:=Jek hp.sim hX hxs
  have hfc':∀ w',w'.heap=w.heap→(Builtin.firstCells i.size xs.length (a.eval xo)).run P w'=.ok news.toArray w':=by
   intro w' hw
   have:=hfc xs.length (Gh _) w' hw
   rw[List.take_of_length_le (Nat.le_of_eq hok.len)]at this
   rw[← hlenz]; exact this
  have grow:∀ (m1:Bk) (H1:List CObj) (sb:Option Addr) (sLen sCap:Nat) (eo:List (List CV)) (olds:List Value),Sim E m1 H1 w→m1=m→H1.length=H.length→a.eval so=.slice sb sLen sCap→Xt m.own m.imm z.length eo olds→eo.length=sLen→(∀ v∈olds,v.oneCell'=true)→
    (∀ w',w'.heap=w.heap→(Builtin.firstCells i.size sLen (.slice sb sLen sCap)).run P w'=.ok olds.toArray w')→sCap < sLen+xs.length→(JJ (sLen+xs.length) i.bytes).holds→Good P E n0 m1 H1 w (execOp a.eval o) (.slc H.length 0 (sLen+xs.length) none) (H1++[.arr z.length (eo++xs)]):=by
   intro m1 H1 sb sLen sCap eo olds hs1 hm hH1 hse hoks heo hone1 hfo hg hroom
   subst hm
   obtain ⟨cap,hcap,hr⟩:=run_grow (P:=P) (w:=w) (ty:=o.type) hd hu hdu hi hzv hlen hfc' hfo hg hroom.1 hroom.2
   have hall:=hoks.append hok
   rw[← hH1]
   refine good_grow hs1 (hrun _ _ (by rw[hse]; exact hr)) (by simp[heo]) hcap ?_ (hall.relO fun i v hv=>?_) ?_
   ·have h1:=hoks.len
    have h2:=hok.len
    simp only[Array.size_append,GU,size_zeroCells,h1,h2,heo,hzn,hlenz]
    rw[← Gc,← Gc]; congr 1; omega
   ·have hlt:i < (olds++news).length:=(Gd.1 hv).1
    simp only[Gw]
    rw[Array.getElem?_append_left (by simpa using hlt)]
    simpa using hv
   ·intro j v hv
    have hm:=G6 hv
    simp only[Array.mem_append,List.mem_toArray]at hm
    rcases hm with (h1 | h1) | h1
    ·exact hone1 v h1
    ·exact hnone v h1
    ·exact Jbq (hrelz m1.own m1.imm) h1z h0 v (by simpa using h1)
  cases xs with
  |nil=>
   have hn:news=[]:=Gn (by rw[hok.len]; simp)
   subst hn
   have none_:∀ sb sLen sCap,a.eval so=.slice sb sLen sCap→sLen≤sCap→(execOp a.eval o).run P w=.ok (.value (a.eval so)) w:=by
    intro sb sLen sCap hse hle
    rw[hse]
    exact hrun _ _ (by rw[hse]; exact JdD hd hu hdu hi (by simpa using hlen) (by simpa using hfc' w rfl) hle)
   have hso2:=hS
   cases hx:JQ T is <;> rw[hx]at he hS <;> simp[J4]at he
   ·obtain ⟨_,rfl,rfl⟩:=he
    simp only[rel]at hS
    rw[hx]at hso2
    exact Jl hp.sim (none_ _ _ _ hS (Gh _)) hso2
   ·obtain ⟨_,rfl,rfl⟩:=he
    simp only[rel]at hS
    obtain ⟨x',ba,rc,hx',hv,hlc,_⟩:=hS
    rw[hx]at hso2
    exact Jl hp.sim (none_ _ _ _ hv hlc) hso2
   ·obtain ⟨_,rfl,rfl⟩:=he
    simp only[rel]at hS
    rw[hx]at hso2
    rcases hS with ⟨_,_,b,hv⟩ | ⟨B,q,rc,hv,hlc,_⟩
    ·exact Jl hp.sim (none_ _ _ _ hv (Gh _)) hso2
    ·exact Jl hp.sim (none_ _ _ _ hv hlc) hso2
  |cons x0 xs'=>
   generalize hxx:x0::xs'=xs at *
   have hpos:0 < xs.length:=by rw[← hxx]; simp
   have he':J4 z.length i.bytes H (JQ T is) (x0::xs')=some (c,v,H'):=by rw[hxx]; exact he
   clear he
   cases hx:JQ T is with
   |nils=>
    rw[hx]at he' hS
    simp only[J4,Ga,Gb,hxx]at he'
    obtain ⟨rfl,rfl,rfl⟩:=he'
    simp only[rel]at hS
    have:=grow m H none 0 0 [] [] hp.sim rfl rfl hS ⟨by simp,by simp[JE]⟩ rfl (by simp) (fun w' _=>by simp[Builtin.firstCells]) (by omega) (by simpa using hc)
    simpa using this
   |rslc z' els cap=>
    rw[hx]at he' hS
    simp only[J4]at he'
    cases cap with
    |none=>simp at he'
    |some c0=>
     by_cases hzz:z'=z.length
     ·subst hzz
      simp only[if_true,Ga,Gb,hxx]at he'
      obtain ⟨rfl,rfl,rfl⟩:=he'
      simp only[rel]at hS
      rcases hS with ⟨h0,hels,b0,hv0⟩ | ⟨B,q,rc,hv,hlc,hcap,hrow⟩
      ·have hc0:c0=0:=by
        rcases h0 with h0 | h0
        ·cases h0
        ·exact Option.some.inj h0
       subst hc0 hels
       have:=grow m H b0 0 0 [] [] hp.sim rfl rfl hv0 ⟨by simp,by simp[JE]⟩ rfl (by simp) (fun w' _=>by cases b0 <;> simp[Builtin.firstCells,loadCells,loadCellsFrom]) (by omega) hc.2
       simpa using this
      have hrc:=hcap c0 rfl
      subst hrc
      obtain ⟨olds,hoks,hR⟩:=Yj (JdI (own:=m.own) hrow)
      refine grow m H _ _ _ els olds hp.sim rfl rfl hv hoks rfl (fun v hv=>?_) (fun w' hw=>?_) ?_ hc.2
      ·obtain ⟨j,hj⟩:=Gm hv
       exact hp.sim.one _ _ v (hR j v hj)
      ·rw[← hlenz]
       exact run_firstCells_some w' _ _ _ _ _ olds hoks.len (fun j v hv=>by rw[addr_add]; exact (cell?_congr (by rw[hw])).trans (hp.sim.imm _ _ _ (hR j v hv)))
      ·have:=hc.1; simp only[Cond.holds]at this; omega
     ·simp[hzz]at he'
   |slc id off len cap=>
    rw[hx]at he' hS
    simp only[J4]at he'
    simp only[rel]at hS
    obtain ⟨x',ba,rc,hx',hv,hlc,hcap,hba,hle⟩:=hS
    split at he'
    ·rename_i z' els0 hH
     have key:z'=z.length∧∃ els:List (List CV),off+len=els.length∧(∀ (R:Nat→Option Value) (o:Nat),relO m.own m.imm z.length els0 R o→relO m.own m.imm z.length els R o)∧(match (generalizing:=false) cap with
       |none=>some (JJ (len+(x0::xs').length) i.bytes,CV.slc H.length 0 (len+(x0::xs').length) none,(H.set id .dead)++[.arr z.length (els.drop off++(x0::xs'))])
       |some c=>some (.and (.le (c+1) (len+(x0::xs').length)) (JJ (len+(x0::xs').length) i.bytes),CV.slc H.length 0 (len+(x0::xs').length) none,H++[.arr z.length (els.drop off++(x0::xs'))]))=some (c,v,H'):=by
      by_cases hzz:z'=z.length∧off+len=els0.length
      ·rw[if_pos hzz]at he'
       exact ⟨hzz.1,els0,hzz.2,fun _ _ h=>h,he'⟩
      ·rw[if_neg hzz]at he'
       by_cases hz2:z'=z.length∧off+len≤els0.length∧cap=none
       ·rw[if_pos hz2]at he'
        obtain ⟨h1,h2,rfl⟩:=hz2
        refine ⟨h1,els0.take (off+len),by rw[Gu]; omega,fun R o h j ee hj=>?_,he'⟩
        rw[GG]at hj
        split at hj
        ·exact h j ee hj
        ·cases hj
       ·rw[if_neg hz2]at he'; cases he'
     ·obtain ⟨rfl,els,hol,hsub,he'⟩:=key
      obtain ⟨hz',cells,elem,hb,hsz,hle',hrow0,hcone⟩:=hp.sim.obj id _ x' hH hx'
      have hrow:=hsub _ _ (by rw[← hz']; exact hrow0)
      rw[← hz']at hrow
      have hrow2:=relO_sub hrow off
      rw[hz']at hrow2
      obtain ⟨olds,hoks,hR⟩:=Yj hrow2
      have hdl:(els.drop off).length=len:=by simp; omega
      have hone1:∀ v∈olds,v.oneCell'=true:=fun v hv=>by
       obtain ⟨j,hj⟩:=Gm hv
       exact hcone _ v (hR j v hj)
      have hfo:∀ w',w'.heap=w.heap→(Builtin.firstCells i.size len (.slice (some ba) len rc)).run P w'=.ok olds.toArray w':=by
       intro w' hw
       by_cases h00:rc=0
       ·have:len=0:=by omega
        subst this
        have hn:olds=[]:=Gn (by rw[hoks.len,hdl]; simp)
        subst hn
        simp[Builtin.firstCells,loadCells,loadCellsFrom]
       ·have:=hba h00
        subst this
        rw[← hlenz,hz']
        have:=hoks.len
        rw[hdl]at this
        exact run_firstCells_some w' _ _ _ _ _ olds this (fun j v hv=>by
         rw[addr_add]
         refine (cell?_congr (w:=w) (by rw[hw])).trans ?_
         simp only[World.cell?,hb]
         simpa using hR j v hv)
      cases cap with
      |some c0=>
       simp only[Ga,Gb,hxx]at he'
       obtain ⟨rfl,rfl,rfl⟩:=he'
       have hrc:=hcap c0 rfl
       exact grow m H _ _ _ (els.drop off) olds hp.sim rfl rfl hv hoks hdl hone1 hfo (by have:=hc.1; simp only[Cond.holds]at this; omega) hc.2
      |none=>
       simp only[Ga,Gb,hxx]at he'
       obtain ⟨rfl,rfl,rfl⟩:=he'
       by_cases hroom:len+xs.length≤rc
       ·
        have hb2:=hba (by omega)
        subst hb2
        have hnl:=hok.len
        have hmul:(off+(len+xs.length))*x'.z≤(off+rc)*x'.z:=Gg _ (by omega)
        have e1:(off+rc)*x'.z=off*x'.z+rc*x'.z:=Gc _ _ _
        have e2:(off+(len+xs.length))*x'.z=off*x'.z+len*x'.z+xs.length*x'.z:=by rw[Gc,Gc]; omega
        have hisz:i.size=x'.z:=by rw[hz',hlenz]
        rw[← hz']at hnl
        have hfit:x'.o+off*x'.z+len*i.size+news.length≤cells.size:=by rw[hisz,hnl,hsz]; omega
        have hr:=run_room (P:=P) (w:=w) (ty:=o.type) hd hu hdu hi hlen (hfc' w rfl) hb hroom hfit hnone
        rw[hisz]at hr hfit
        have hrow3:=hrow2
        rw[← hz']at hrow3 hok
        let cs:Array Value:=(cells.toList.take (x'.o+off*x'.z+len*x'.z)++news++cells.toList.drop (x'.o+off*x'.z+len*x'.z+news.length)).toArray
        have hcs:cs.size=x'.n:=by simp[cs]; omega
        have rd:∀ p,cs[p]? = if x'.o+off*x'.z+len*x'.z≤p∧p < x'.o+off*x'.z+len*x'.z+news.length then news[p-(x'.o+off*x'.z+len*x'.z)]? else cells[p]?:=by
         intro p
         simp only[cs,Gs]
         have hA:(cells.toList.take (x'.o+off*x'.z+len*x'.z)).length=x'.o+off*x'.z+len*x'.z:=by simp; omega
         by_cases h1:p < x'.o+off*x'.z+len*x'.z
         ·have h2:p < (cells.toList.take (x'.o+off*x'.z+len*x'.z)).length:=by omega
          rw[Gt,Gf h2,Gl h1,if_neg (by omega)]; simp
         ·by_cases h2:p < x'.o+off*x'.z+len*x'.z+news.length
          ·have h3:p < (cells.toList.take (x'.o+off*x'.z+len*x'.z)++news).length:=by rw[Gi]; omega
           have h4:(cells.toList.take (x'.o+off*x'.z+len*x'.z)).length≤p:=by omega
           rw[Gf h3,Gj h4,hA,if_pos ⟨by omega,h2⟩]
          ·have h3:(cells.toList.take (x'.o+off*x'.z+len*x'.z)++news).length≤p:=by rw[Gi]; omega
           rw[Gj h3,if_neg (by omega),Gq]
           simp only[Gi,hA]
           rw[show x'.o+off*x'.z+len*x'.z+news.length+(p-(x'.o+off*x'.z+len*x'.z+news.length))=p by omega]; simp
        have hrowN:relO m.own m.imm x'.z (els.drop off++xs) (fun i=>cs[i]?) (x'.o+off*x'.z):=by
         intro j ee hj
         by_cases hjl:j < len
         ·rw[Gf (by omega)]at hj
          have:=hrow3 j ee hj
          refine ⟨this.1,fun t c hc=>?_⟩
          obtain ⟨r,hr1,hr2⟩:=this.2 t c hc
          have ht:t < x'.z:=this.1▸(Gd.1 hc).1
          have:(j+1)*x'.z≤len*x'.z:=Gg _ hjl
          rw[Gc,Gx]at this
          exact ⟨r,by show cs[_]? = _; rw[rd,if_neg (by omega)]; exact hr1,hr2⟩
         ·rw[Gj (by omega),hdl]at hj
          have hrx:=hok.relO (R:=fun i=>news[i]?) (o:=0) (fun i v hv=>by simpa using hv)
          have:=hrx _ ee hj
          refine ⟨this.1,fun t c hc=>?_⟩
          obtain ⟨r,hr1,hr2⟩:=this.2 t c hc
          have ht:t < x'.z:=this.1▸(Gd.1 hc).1
          simp only[Gw]at hr1
          have hlt:=(Gd.1 hr1).1
          have e3:j*x'.z=len*x'.z+(j-len)*x'.z:=by rw[← Gc]; congr 1; omega
          refine ⟨r,?_,hr2⟩
          show cs[_]? = _
          rw[rd,if_pos (by omega),show x'.o+off*x'.z+j*x'.z+t-(x'.o+off*x'.z+len*x'.z)=(j-len)*x'.z+t by omega]
          exact hr1
        have hlow:∀ q,q < x'.o→cs[q]? = cells[q]?:=fun q hq=>by rw[rd,if_neg (by omega)]
        have hone2:∀ (q:Nat) v,cs[q]? = some v→v.oneCell'=true:=YA hcone hnone
        have hheap:(w.setRow x'.B cs).heap[x'.B]? = some (.cells cs elem (0,0)):=setRow_heap w x'.B cells cs elem (0,0) hb
        have hdead:Sim E m (H.set id .dead) (w.setRow x'.B cs):=by
         refine hp.sim.put hH rfl hx' (setRow_size _ _ _) (fun B hB=>setRow_other w x'.B B cs hB) (fun q hq=>?_) trivial (by intro s b h; cases h)
         rw[cell_setRow_same w x'.B q cells cs elem (0,0) hb,hlow q hq]
         simp[World.cell?,hb]
        have hadopt:=hdead.adopt ⟨x'.B,x'.o+off*x'.z,x'.n,x'.z⟩ (.arr z.length (els.drop off++xs)) (fun k o' x2 hk ha hx2=>?_) (fun q hq=>hp.sim.ro id _ x' hH rfl hx' q (by simp only at hq; omega)) (hp.sim.extsep id _ x' hH rfl hx') ⟨hz',cs,elem,hheap,hcs,?_,Jaa (Kg.append _ _) (J5.refl _) hrowN,hone2⟩ (by intro s b h; cases h)
        ·refine ⟨_,_,_,_,hrun _ _ (by rw[hv]; exact hr),.inl rfl,?_,hadopt,?_,Kg.append _ _⟩
         ·refine ⟨by rw[setRow_size]; exact Gh _,fun B hB hn=>setRow_other w x'.B B cs fun e=>hn (e▸.inr ⟨id,_,x',hH,rfl,hx',rfl⟩),J5.refl _,fun B hB=>.inl ?_,fun B q v h=>.inl h,fun k x2 hk hx2=>?_,fun h=>by simp; omega,JcE _ _ _⟩
          ·rcases hB with hB | ⟨k,o2,x2,hk,ha2,hx2,rfl⟩
           ·exact .inl hB
           ·simp only at hx2
            by_cases hlt:k < H.length
            ·rw[Gf (by simpa using hlt)]at hk
             rw[Gf (by rw[hp.sim.len]; exact hlt)]at hx2
             rw[Gz]at hk
             split at hk
             ·split at hk
              ·simp at hk; subst hk; cases ha2
              ·cases hk
             ·exact .inr ⟨k,o2,x2,hk,ha2,hx2,rfl⟩
            ·have hk1:=(Gd.1 hx2).1
             have:k=m.own.length:=by have:=hp.sim.len; simp at hk1; omega
             subst this
             simp at hx2
             subst hx2
             exact .inr ⟨id,_,x',hH,rfl,hx',rfl⟩
          ·simp only
           rw[Gf (Gd.1 hx2).1]; exact hx2
         ·simp only[rel]
          refine ⟨⟨x'.B,x'.o+off*x'.z,x'.n,x'.z⟩,_,_,by rw[← hp.sim.len]; simp,rfl,hroom,by simp,fun _=>by simp,by simp; omega⟩
        ·rw[Gz]at hk
         split at hk
         ·split at hk
          ·simp at hk; subst hk; cases ha
          ·cases hk
         ·rename_i hne
          exact fun e=>hne (hp.sim.sep id k _ o' x' x2 hH hk rfl ha hx' hx2 e.symm)
        ·simp only[Gi,hdl]
         rw[show (len+xs.length)*x'.z=len*x'.z+xs.length*x'.z from Gc _ _ _]; omega
       ·have:=grow m (H.set id .dead) _ _ _ (els.drop off) olds (hp.sim.kill id (fun s b h=>by rw[hH]at h; cases h)) rfl (by simp) hv hoks hdl hone1 hfo (by omega) hc
        exact good_of_kill this
    ·cases he'
   |_=>rw[hx]at he'; simp[J4]at he'
 ·cases he
end
end
section
section
variable {P:Program}{E:Env}{n0:Nat}{m:Bk}{H H':List CObj}{w:World}{T:List CV}{a:Act}{c:Cond}{v:CV}{o:Oper}
theorem Jd8 {z:Nat}:∀ (els:List (List CV)) (i:Nat) (l:List CV),(∀ e∈els,e.length=z)→i < els.length→l.length=z→(els.set i l).flatten=splice els.flatten (i*z) l
 |[],i,l,_,h,_=>by simp at h
 |e::es,0,l,hz,_,hl=>by
  have he:e.length=z:=hz e (by simp)
  simp[splice,hl,← he]
 |e::es,i+1,l,hz,h,hl=>by
  have he:e.length=z:=hz e (by simp)
  have ih:=Jd8 es i l (fun x hx=>hz x (by simp[hx])) (by simpa using h) hl
  simp only[List.set_cons_succ,List.flatten_cons,ih,splice]
  have e1:(i+1)*z=e.length+i*z:=by rw[Gc,he]; omega
  rw[e1,List.take_length_add_append,Nat.add_assoc,List.drop_length_add_append,Gt]
theorem YJ {own:List Own}{imm:Nat→Nat→Option Value}{z:Nat}(hT:JE own imm T a.tmps.toList):∀ (ps:List (Nat×Operand)) (l:List (Nat×IArg)) (els out:List (List CV)) (vs:Array Value),Yv ps=some l→QA T z els l=some out→Xt own imm z els vs.toList→(∀ v∈vs.toList,v.oneCell'=true)→
  ∃ vs',Instr.fill (fun i=>some (i*z,z)) vs (ps.map fun p=>(p.1,a.eval p.2))=some vs'∧Xt own imm z out vs'.toList∧(∀ v∈vs'.toList,v.oneCell'=true)∧out.length=els.length
 |[],l,els,out,vs,hl,hf,hr,h1=>by
  simp[Yv]at hl; subst hl
  simp[QA]at hf; subst hf
  exact ⟨vs,by simp[Instr.fill],hr,h1,rfl⟩
 |(i,x)::ps,l,els,out,vs,hl,hf,hr,h1=>by
  simp only[Yv]at hl
  split at hl
  ·rename_i ia l' h2 h3
   cases hl
   simp only[QA]at hf
   split at hf
   ·cases hf
   ·rename_i lc hlc
    split at hf
    ·rename_i hlen
     have hx:=Yp (Jy hT h2) hlc
     have hxl:=Ju hx
     have hxn:(a.eval x).cells.size=z:=by have:=hlen.1; simp at hxl; omega
     have hvl:=hr.len
     simp at hvl
     have hmul:(i+1)*z≤els.length*z:=Gg _ hlen.2.1
     rw[Gc,Gx]at hmul
     have hle:i*z+z≤vs.size:=by omega
     have hs:=Ja4 hr.2 hx (i*z)
     simp only[Array.length_toList,hxn]at hs
     have hsum:=JgA hxn hle
     rw[← hsum]at hs
     have hok:Xt own imm z (els.set i lc) ((a.eval x).cells.zipIdx.foldl (fun cs (c,j)=>cs.setIfInBounds (i*z+j) c) vs).toList:=
      ⟨fun e he=>by rcases List.mem_or_eq_of_mem_set he with h | rfl; exact hr.1 e h; exact hlen.1,by rw[Jd8 els i lc hr.1 hlen.2.1 hlen.1]; exact hs⟩
     have hone:∀ v∈((a.eval x).cells.zipIdx.foldl (fun cs (c,j)=>cs.setIfInBounds (i*z+j) c) vs).toList,v.oneCell'=true:=by
      rw[hsum]
      intro v hv
      rcases Gv.1 hv with h4 | h4
      ·rcases Gv.1 h4 with h5 | h5
       ·exact h1 v (GD h5)
       ·exact QS hx hlen.2.2 v h5
      ·exact h1 v (GN h4)
     obtain ⟨vs',hv,hr',hone',hlen'⟩:=YJ hT ps l' _ out _ h3 hf hok hone
     refine ⟨vs',?_,hr',hone',by simpa using hlen'⟩
     simp only[List.map_cons,Instr.fill]
     simp only[hxn,ne_eq,not_true_eq_false,decide_false,Bool.false_or,decide_eq_true_eq]
     rw[if_neg (by omega)]
     exact hv
    ·cases hf
  ·cases hl
theorem snd_bslice {t e:TypeId}{n:Nat}{ps:Array (Nat×Operand)}{z:List CV}{l:List (Nat×IArg)}(ho:o.op=.buildSlice t n ps) (hd:P.underlying t=some (.slice e)) (hz:zeroOf P e=some z) (hl:Yv ps.toList=some l) (h0:z.length≠0) (hn:n*z.length≤2 ^ 24)
  (he:exec (.bslice z.length n z l) T H=some (c,v,H')) (hp:Pre E n0 m H w T a):Good P E n0 m H w (execOp a.eval o) v H':=by
 obtain ⟨i,zv,hi,_,hrun,hrel,hlen,h1z⟩:=QW (P:=P) (w:=w) hz
 simp only[exec]at he
 split at he
 ·rename_i out hout
  simp only[Ga,Gb]at he
  obtain ⟨_,rfl,rfl⟩:=he
  have hsz:(sizeOf e).run P w=.ok z.length w:=by simp[sizeOf,typeInfo,hi,hlen]
  let base:Array Value:=(G9 (n*z.length)).map (fun j=>zv.cells[j % zv.cells.size]!)
  have hrow:=Q3 (hrel m.own m.imm) n n h0 (Gh _)
  have hbase:Xt m.own m.imm z.length (Gr n z) base.toList:=by
   obtain ⟨vs,hok,hR⟩:=Yj hrow
   have hvl:=hok.len
   have:vs=base.toList:=by
    apply GH
    intro j
    by_cases hj:j < vs.length
    ·have:=hR j vs[j] (Gp hj)
     rw[Gp hj,← this,G7,Gw]
    ·rw[Gy (by omega),Gy]
     simp[base]at hvl ⊢; omega
   rw[← this]; exact hok
  have hone:∀ v∈base.toList,v.oneCell'=true:=by
   intro v hv
   obtain ⟨j,hj⟩:=Gm hv
   have hj':base[j]? = some v:=by simpa using hj
   exact JbQ (hrel m.own m.imm) h1z h0 (N:=n*z.length) j v hj'
  obtain ⟨vs',hv,hr',hone',hol⟩:=YJ (a:=a) hp.tmps ps.toList l _ out base hl hout hbase hone
  have hvl:=hr'.len
  simp at hol
  refine good_row (r:=.slice (some ⟨w.heap.size,0,none⟩) n n) (cells:=vs') (elem:=e) (z:=z.length) hp.sim ?_ (by simp at hvl; omega) (hr'.relO fun j v hv=>by simpa using hv) (fun j v hv=>hone' v (Array.mem_toList_iff.2 (G6 hv))) ?_
  ·have hl2:(ps.map (fun (p:Nat×Operand)=>(p.1,a.eval p.2))).toList=ps.toList.map fun p=>(p.1,a.eval p.2):=by simp
   have hn':¬ (n*z.length > 2 ^ 24):=by omega
   simp only[execOp,ho,Instr.buildSlice,Sem.run_bind,run_underlying hd,Result.andThen_ok,hsz,hn',if_false]
   by_cases hn0:n*z.length=0
   ·have hb0:base=(G9 (n*z.length)).map (fun x=>(#[]:Array Value)[x % 0]!):=by
     apply Array.ext
     ·simp[base]
     ·intro j h1 _; simp[base,hn0]at h1
    rw[hb0]at hv
    simp only[hn0,if_true,Sem.run_bind,Sem.run_pure,Result.andThen_ok,GU,List.length_nil]at hv ⊢
    rw[hl2]
    simp only[hv,newRow,Sem.run_bind,run_newObj,Result.andThen_ok,Sem.run_pure,World.alloc_eq]
   ·simp only[hn0,if_false,Sem.run_bind,Sem.run_pure,Result.andThen_ok,hrun]
    rw[hl2]
    simp only[base]at hv
    simp only[hv,newRow,Sem.run_bind,run_newObj,Result.andThen_ok,Sem.run_pure,World.alloc_eq]
  ·simp only[rel]
   refine ⟨_,_,_,JdN hp.sim _,rfl,Gh _,by simp,fun _=>by simp,by simp at hvl ⊢; rw[hvl,hol]; exact Gh _⟩
 ·cases he
theorem snd_clear {t e:TypeId}{cl:Call}{x:Operand}{ix:IArg}{z:List CV}(ho:o.op=.call cl) (hcal:cl.callee=.builtin .clear) (hty:cl.argTypes.toList=[t]) (hargs:cl.args.toList=[x]) (hd:P.underlying t=some (.slice e)) (hz:zeroOf P e=some z) (hx:Jv x=some ix)
  (he:exec (.clear z ix) T H=some (c,v,H')) (hc:c.holds) (hp:Pre E n0 m H w T a):Good P E n0 m H w (execOp a.eval o) v H':=by
 have h1:=Jy hp.tmps hx
 obtain ⟨i,zv,hi,_,hrunz,hrel,hlen,h1z⟩:=QW (P:=P) (w:=w) hz
 have hty':cl.argTypes=#[t]:=by cases hh:cl.argTypes; simp_all
 have hargs':cl.args=#[x]:=by cases hh:cl.args; simp_all
 have hrun:∀ (r:Value) w',(Builtin.clear_ #[t] o.type #[a.eval x]).run P w=.ok r w'→(execOp a.eval o).run P w=.ok (.value r) w':=by
  intro r w' hr
  simp[execOp,ho,resolve,hcal,invoke,builtin,hty',hargs',hr]
 have tup0:rel m.own m.imm (.tup []) (.tuple #[]):=by simp[rel,JE]
 simp only[exec]at he
 split at he
 ·rename_i e1
  rw[e1]at h1; simp only[rel]at h1
  simp only[Ga,Gb]at he
  obtain ⟨_,rfl,rfl⟩:=he
  exact Jl hp.sim (hrun _ _ (by simp[Builtin.clear_,run_underlying hd,h1])) tup0
 ·rename_i id off len cap e1
  rw[e1]at h1; simp only[rel]at h1
  obtain ⟨x',ba,rc,hx',hv,hlc,hcap,hba,hle⟩:=h1
  split at he
  ·rename_i z' els hH
   split at he
   ·rename_i hzz
    simp only[Ga,Gb]at he
    obtain ⟨rfl,rfl,rfl⟩:=he
    have hol:off+len≤els.length:=hc
    by_cases hl0:len=0
    ·subst hl0
     have:H.set id (.arr z' (els.take off++(Gr 0 z++els.drop (off+0))))=H:=by
      have e2:els.take off++(Gr 0 z++els.drop (off+0))=els:=by simp
      rw[e2]
      apply GH
      intro j
      rw[Gz]
      split
      ·rename_i hj; subst hj; rw[hH]; have:=(Gd.1 hH).1; simp[this]
      ·rfl
     rw[this]
     exact Jl hp.sim (hrun _ _ (by simp[Builtin.clear_,run_underlying hd,hv])) tup0
    ·have hb2:=hba (by omega)
     subst hb2
     obtain ⟨hz',cells,elem,hb,hsz,hle',hrow,hcone⟩:=hp.sim.obj id _ x' hH hx'
     have hzl:=Ju (hrel m.own m.imm)
     have hzn:zv.cells.size=x'.z:=by simp at hzl; omega
     have hz0:x'.z=z.length:=by rw[hz',hzz.1]
     let news:=(Builtin.zeroCells zv.cells len).toList
     have hnl:news.length=len*x'.z:=by simp[news,size_zeroCells,hzn]
     have hmul:(off+len)*x'.z≤els.length*x'.z:=Gg _ hol
     rw[Gc]at hmul
     by_cases hzz0:z.length=0
     ·
      have hnn:news=[]:=Gn (by rw[hnl,hz0,hzz0]; simp)
      have hr:(Builtin.clear_ #[t] o.type #[a.eval x]).run P w=.ok (.tuple #[]) (w.setRow x'.B cells):=by
       rw[setRow_self w x'.B cells elem (0,0) hb]
       have:(Builtin.zeroCells zv.cells len).toList=[]:=hnn
       cases len with
       |zero=>exact absurd rfl hl0
       |succ k=>simp[Builtin.clear_,run_underlying hd,hv,hrunz,this,storeCells]
      refine Jdh (nx:=.value (.tuple #[])) hp hH hx' hb hz' (hrun _ _ hr) (.inl rfl) hsz (by rw[hz0,hzz0]; simp; have:=hle'; rw[hz0,hzz0]at this; simpa using this) (fun _ _=>rfl) (fun j ee hj=>?_) hcone tup0
      have hz1:∀ ee∈els,ee.length=x'.z:=fun ee hm=>by obtain ⟨k,hk⟩:=Gm hm; exact (hrow k ee hk).1
      have hm:=GQ hj
      have hel:ee.length=x'.z:=by
       rcases Gv.1 hm with h2 | h2
       ·exact hz1 ee (GD h2)
       ·rcases Gv.1 h2 with h3 | h3
        ·rw[GR]at h3; rw[h3.2,hz0]
        ·exact hz1 ee (GN h3)
      refine ⟨hel,fun t c hc=>?_⟩
      have:=(Gd.1 hc).1
      omega
     ·have hnone:∀ v∈news,v.oneCell'=true:=Jbq (hrel m.own m.imm) h1z hzz0
      have hrz:=Q3 (hrel m.own m.imm) len len hzz0 (Gh _)
      have hst:=run_storeCells_at P x'.B (x'.o+off*x'.z) elem news 0 cells w hb (by rw[hnl]; omega) hnone
      simp only[GJ]at hst
      let cs:Array Value:=(cells.toList.take (x'.o+off*x'.z)++news++cells.toList.drop (x'.o+off*x'.z+news.length)).toArray
      have hr:(Builtin.clear_ #[t] o.type #[a.eval x]).run P w=.ok (.tuple #[]) (w.setRow x'.B cs):=by
       cases len with
       |zero=>exact absurd rfl hl0
       |succ k=>simp only[Builtin.clear_,Sem.run_bind,run_underlying hd,hv,Result.andThen_ok,Gs,GL,hrunz,hst,Sem.run_pure,news,cs]
      have rd:∀ p,cs[p]? = if x'.o+off*x'.z≤p∧p < x'.o+off*x'.z+news.length then news[p-(x'.o+off*x'.z)]? else cells[p]?:=by
       intro p
       simp only[cs,Gs]
       have hA:(cells.toList.take (x'.o+off*x'.z)).length=x'.o+off*x'.z:=by simp; omega
       by_cases h1:p < x'.o+off*x'.z
       ·have h2:p < (cells.toList.take (x'.o+off*x'.z)).length:=by omega
        rw[Gt,Gf h2,Gl h1,if_neg (by omega)]; simp
       ·by_cases h2:p < x'.o+off*x'.z+news.length
        ·have h3:p < (cells.toList.take (x'.o+off*x'.z)++news).length:=by rw[Gi]; omega
         have h4:(cells.toList.take (x'.o+off*x'.z)).length≤p:=by omega
         rw[Gf h3,Gj h4,hA,if_pos ⟨by omega,h2⟩]
        ·have h3:(cells.toList.take (x'.o+off*x'.z)++news).length≤p:=by rw[Gi]; omega
         rw[Gj h3,if_neg (by omega),Gq]
         simp only[Gi,hA]
         rw[show x'.o+off*x'.z+news.length+(p-(x'.o+off*x'.z+news.length))=p by omega]; simp
      refine Jdh (nx:=.value (.tuple #[])) hp hH hx' hb hz' (hrun _ _ hr) (.inl rfl) (by simp[cs]; omega) (by simp only[Gi,Gu,GM,GV]; rw[show min off els.length+(len+(els.length-(off+len)))=els.length by omega]; exact hle') (fun q hq=>by rw[rd,if_neg (by omega)]) (fun j ee hj=>?_) (YA hcone hnone) tup0
      by_cases hj1:j < off
      ·rw[Gf (by simp; omega),Gl hj1]at hj
       have:=hrow j ee hj
       refine ⟨this.1,fun t c hc=>?_⟩
       obtain ⟨r,hr1,hr2⟩:=this.2 t c hc
       have ht:t < x'.z:=this.1▸(Gd.1 hc).1
       have:(j+1)*x'.z≤off*x'.z:=Gg _ hj1
       rw[Gc,Gx]at this
       exact ⟨r,by show cs[_]? = _; rw[rd,if_neg (by omega)]; exact hr1,hr2⟩
      ·rw[Gj (by simp; omega)]at hj
       have e3:(els.take off).length=off:=by simp; omega
       rw[e3]at hj
       by_cases hj2:j < off+len
       ·rw[Gf (by simp; omega)]at hj
        have:=hrz (j-off) ee hj
        rw[← hz0]at this
        refine ⟨this.1,fun t c hc=>?_⟩
        obtain ⟨r,hr1,hr2⟩:=this.2 t c hc
        have ht:t < x'.z:=this.1▸(Gd.1 hc).1
        have hr3:news[(j-off)*x'.z+t]? = some r:=by
         simp only[news,G7,Builtin.zeroCells,hzn]
         simpa [hzn]using hr1
        have hlt:=(Gd.1 hr3).1
        have e4:j*x'.z=off*x'.z+(j-off)*x'.z:=by rw[← Gc]; congr 1; omega
        refine ⟨r,?_,hr2⟩
        show cs[_]? = _
        rw[rd,if_pos (by omega),show x'.o+j*x'.z+t-(x'.o+off*x'.z)=(j-off)*x'.z+t by omega]
        exact hr3
       ·rw[Gj (by simp; omega),GM,Gq,show off+len+(j-off-len)=j by omega]at hj
        have:=hrow j ee hj
        refine ⟨this.1,fun t c hc=>?_⟩
        obtain ⟨r,hr1,hr2⟩:=this.2 t c hc
        have:(off+len)*x'.z≤j*x'.z:=Gg _ (by omega)
        rw[Gc]at this
        exact ⟨r,by show cs[_]? = _; rw[rd,if_neg (by omega)]; exact hr1,hr2⟩
   ·cases he
  ·cases he
 ·rename_i z' cap e1
  rw[e1]at h1; simp only[rel]at h1
  simp only[Ga,Gb]at he
  obtain ⟨_,rfl,rfl⟩:=he
  rcases h1 with ⟨_,_,b,hv⟩ | ⟨B,q,rc,hv,hlc,hcap,hrow⟩
  ·exact Jl hp.sim (hrun _ _ (by cases b <;> simp[Builtin.clear_,run_underlying hd,hv])) tup0
  exact Jl hp.sim (hrun _ _ (by simp[Builtin.clear_,run_underlying hd,hv])) tup0
 ·cases he
theorem snd_nchk {x:Operand}{i:IArg}(ho:o.op=.nilCheck x) (hx:Jv x=some i) (he:exec (.nchk i) T H=some (c,v,H')) (hp:Pre E n0 m H w T a):Good P E n0 m H w (execOp a.eval o) v H':=by
 have h1:=Jy hp.tmps hx
 simp only[exec]at he
 split at he
 ·rename_i e
  simp only[Ga,Gb]at he
  obtain ⟨_,rfl,rfl⟩:=he
  rw[e]at h1
  have h2:=h1
  simp only[rel]at h2
  obtain ⟨x',hx',hv⟩:=h2
  exact Jl hp.sim (r:=a.eval x) (by simp[execOp,ho,hv]) h1
 ·rename_i e
  simp only[Ga,Gb]at he
  obtain ⟨_,rfl,rfl⟩:=he
  rw[e]at h1
  have h2:=h1
  simp only[rel]at h2
  obtain ⟨B,q,hv,_⟩:=h2
  exact Jl hp.sim (r:=a.eval x) (by simp[execOp,ho,hv]) h1
 ·rename_i e
  simp only[Ga,Gb]at he
  obtain ⟨_,rfl,rfl⟩:=he
  rw[e]at h1
  have h2:=h1
  simp only[rel]at h2
  obtain ⟨vs1,vs2,hv,_⟩:=h2
  exact Jl hp.sim (r:=a.eval x) (by simp[execOp,ho,hv]) h1
 ·cases he
theorem JcS {len:Nat}{lo hi:Option Value}{l h:Int}
  (hlo:(lo=none∧l=0)∨∃ k,lo=some (.int k l)) (hhi:(hi=none∧h=len)∨∃ k,hi=some (.int k h)) (h0:0≤l) (h1:l≤h) (h2:h≤len) :
  (Instr.sliceBounds false len len lo hi none).run P w=.ok (l.toNat,h.toNat,len) w:=by
 have hh:(h.toNat:Int)=h:=by omega
 unfold Instr.sliceBounds
 rcases hhi with ⟨rfl,rfl⟩ | ⟨k,rfl⟩
 ·rcases hlo with ⟨rfl,rfl⟩ | ⟨k,rfl⟩
  ·simp
  ·simp[run_sliceBound h0 h1]
 ·rcases hlo with ⟨rfl,rfl⟩ | ⟨k',rfl⟩
  ·simp[run_sliceBound (show (0:Int)≤h by omega) h2]
  ·simp[run_sliceBound (show (0:Int)≤h by omega) h2,run_sliceBound h0 (show l≤(h.toNat:Int) by omega)]
theorem opt_hi {T:List CV}{own:List Own}{imm:Nat→Nat→Option Value}{d:Int}(hT:JE own imm T a.tmps.toList) {lo:Option Operand}{ilo:Option IArg}{l:Int}(h:Qg lo=some ilo) (hl:KT T d ilo=some l):(lo.map a.eval=none∧l=d)∨∃ k,lo.map a.eval=some (.int k l):=by
 cases lo with
 |none=>simp[Qg]at h; subst h; simp[KT]at hl; exact .inl ⟨rfl,hl.symm⟩
 |some x=>
  simp only[Qg]at h
  cases hx:Jv x with
  |none=>simp[hx]at h
  |some i=>
   simp[hx]at h; subst h
   simp only[KT]at hl
   obtain ⟨k,hk⟩:=opt_int (a:=a) hT hx hl
   exact .inr ⟨k,by simp[hk]⟩
theorem snd_sliceS {t:TypeId}{x:Operand}{lo hi:Option Operand}{ix:IArg}{ilo ihi:Option IArg}(ho:o.op=.slice t x lo hi none) (hd:P.underlying t=some .string) (hx:Jv x=some ix) (hlo:Qg lo=some ilo) (hhi:Qg hi=some ihi)
  (he:exec (.sliceS ix ilo ihi) T H=some (c,v,H')) (hc:c.holds) (hp:Pre E n0 m H w T a):Good P E n0 m H w (execOp a.eval o) v H':=by
 have h1:=Jy hp.tmps hx
 simp only[exec]at he
 split at he
 ·rename_i s e
  rw[e]at h1; simp only[rel]at h1
  split at he
  ·rename_i l h hl hh
   simp only[Ga,Gb]at he
   obtain ⟨rfl,rfl,rfl⟩:=he
   simp only[Cond.holds]at hc
   have hb:=JcS (P:=P) (w:=w) (len:=s.size) (opt_hi (a:=a) hp.tmps hlo hl) (opt_hi (a:=a) hp.tmps hhi hh) hc.1 hc.2.1 hc.2.2
   refine Jl hp.sim (r:=.string (s.extract l.toNat h.toNat)) ?_ rfl
   simp[execOp,ho,Instr.sliceAt,run_underlying hd,Instr.slice,h1,hb]
  ·cases he
 ·cases he
theorem snd_mx {cl:Call}{x y:Operand}{i j:IArg}{big:Bool}(ho:o.op=.call cl) (hcal:cl.callee=.builtin (if big then .max else .min)) (hargs:cl.args.toList=[x,y]) (hx:Jv x=some i) (hy:Jv y=some j)
  (he:exec (.mmx big i j) T H=some (c,v,H')) (hp:Pre E n0 m H w T a):Good P E n0 m H w (execOp a.eval o) v H':=by
 have h1:=Jy hp.tmps hx
 have h2:=Jy hp.tmps hy
 have hargs':cl.args=#[x,y]:=by cases hh:cl.args; simp_all
 simp only[exec]at he
 split at he
 ·rename_i k p k' q e1 e2
  rw[e1]at h1; rw[e2]at h2
  simp only[rel]at h1 h2
  split at he
  ·rename_i hk
   subst hk
   simp only[Ga,Gb]at he
   obtain ⟨_,rfl,rfl⟩:=he
   cases big with
   |true=>exact Jl hp.sim (r:=.int k (if q > p then q else p)) (by simp[execOp,ho,resolve,hcal,invoke,builtin,hargs',Builtin.max_,Builtin.max2,h1,h2]) (by simp[rel])
   |false=>exact Jl hp.sim (r:=.int k (if q < p then q else p)) (by simp[execOp,ho,resolve,hcal,invoke,builtin,hargs',Builtin.min_,Builtin.min2,h1,h2]) (by simp[rel])
  ·cases he
 ·cases he
theorem snd_copy {t e:TypeId}{cl:Call}{x y:Operand}{ix iy:IArg}{z:List CV}(ho:o.op=.call cl) (hcal:cl.callee=.builtin .copy) {u:TypeId}(hty:cl.argTypes.toList=[t,u]) (hargs:cl.args.toList=[x,y]) (hd:P.underlying t=some (.slice e)) (hz:zeroOf P e=some z) (h0:z.length≠0) (hx:Jv x=some ix) (hy:Jv y=some iy)
  (he:exec (.copy z.length ix iy) T H=some (c,v,H')) (hc:c.holds) (hp:Pre E n0 m H w T a):Good P E n0 m H w (execOp a.eval o) v H':=by
 have h1:=Jy hp.tmps hx
 have h2:=Jy hp.tmps hy
 obtain ⟨i,zv,hi,_,hrunz,hrel,hlenz,h1z⟩:=QW (P:=P) (w:=w) hz
 have hty':cl.argTypes=#[t,u]:=by cases hh:cl.argTypes; simp_all
 have hargs':cl.args=#[x,y]:=by cases hh:cl.args; simp_all
 have hsz:(sizeOf e).run P w=.ok z.length w:=by simp[sizeOf,typeInfo,hi,hlenz]
 have hrun:∀ (r:Value) w',(Builtin.copy_ #[t,u] o.type #[a.eval x,a.eval y]).run P w=.ok r w'→(execOp a.eval o).run P w=.ok (.value r) w':=by
  intro r w' hr
  simp[execOp,ho,resolve,hcal,invoke,builtin,hty',hargs',hr]
 simp only[exec]at he
 split at he
 ·cases he
 ·rename_i xs hxs
  obtain ⟨news,hok,hlen,hfc,hnone⟩:=Jek (P:=P) hp.sim h2 hxs
  have hzero:∀ (b:Option Addr) (cp:Nat),a.eval x=.slice b 0 cp→(Builtin.copy_ #[t,u] o.type #[a.eval x,a.eval y]).run P w=.ok (.int .i64 0) w:=by
   intro b cp hv
   have hf:=hfc 0 (Nat.zero_le _) w rfl
   rw[GZ,GX]at hf
   cases b <;> simp[Builtin.copy_,run_underlying hd,hv,hlen,hsz,hf,storeCells,goInt]
  split at he
  ·rename_i e1
   rw[e1]at h1; simp only[rel]at h1
   simp only[Ga,Gb]at he
   obtain ⟨_,rfl,rfl⟩:=he
   exact Jl hp.sim (hrun _ _ (hzero none 0 h1)) rfl
  ·rename_i id off len cap e1
   rw[e1]at h1; simp only[rel]at h1
   obtain ⟨x',ba,rc,hx',hv,hlc,hcap,hba,hle⟩:=h1
   split at he
   ·rename_i z' els hH
    split at he
    ·rename_i hzz
     subst hzz
     simp only[Ga,Gb]at he
     obtain ⟨rfl,rfl,rfl⟩:=he
     have hol:off+len≤els.length:=hc
     generalize hnn:min xs.length len=n at *
     have hnx:n≤xs.length:=by omega
     have hnl:n≤len:=by omega
     have hmin:Nat.min xs.length len=n:=hnn
     by_cases hl0:n=0
     ·subst hl0
      have e2:H.set id (.arr z.length (els.take off++(xs.take 0++els.drop (off+0))))=H:=by
       have e2:els.take off++(xs.take 0++els.drop (off+0))=els:=by simp
       rw[e2]
       apply GH
       intro j
       rw[Gz]
       split
       ·rename_i hj; subst hj; rw[hH]; have:=(Gd.1 hH).1; simp[this]
       ·rfl
      rw[e2]
      have hf:=hfc 0 (Nat.zero_le _) w rfl
      rw[GZ,GX]at hf
      exact Jl hp.sim (r:=.int .i64 0) (hrun _ _ (by simp[Builtin.copy_,run_underlying hd,hv,hlen,hsz,hmin,hf,storeCells,goInt])) (by simp[rel])
     ·have hb2:=hba (by omega)
      subst hb2
      obtain ⟨hz',cells,elem,hb,hsize,hle',hrow,hcone⟩:=hp.sim.obj id _ x' hH hx'
      have hz0:x'.z=z.length:=hz'
      have hokl:=hok.len
      have hmx:n*x'.z≤xs.length*x'.z:=Gg _ hnx
      let nw:=news.take (n*z.length)
      have hnwl:nw.length=n*x'.z:=by simp only[nw,Gu]; rw[← hz0]at hokl ⊢; omega
      have hnone':∀ v∈nw,v.oneCell'=true:=fun v hv=>hnone v (GD hv)
      have hmul:(off+n)*x'.z≤els.length*x'.z:=Gg _ (by omega)
      rw[Gc]at hmul
      have hst:=run_storeCells_at P x'.B (x'.o+off*x'.z) elem nw 0 cells w hb (by rw[hnwl]; omega) hnone'
      simp only[GJ]at hst
      have hf:=hfc n hnx w rfl
      let cs:Array Value:=(cells.toList.take (x'.o+off*x'.z)++nw++cells.toList.drop (x'.o+off*x'.z+nw.length)).toArray
      have hr:(Builtin.copy_ #[t,u] o.type #[a.eval x,a.eval y]).run P w=.ok (.int .i64 (n:Int)) (w.setRow x'.B cs):=by
       simp only[Builtin.copy_,Gs,GL,List.getElem?_cons_succ,Sem.run_bind,run_underlying hd,hv,hlen,Result.andThen_ok,hmin,hsz,hf,hst,Sem.run_pure,goInt,cs,nw]
      have rd:∀ p,cs[p]? = if x'.o+off*x'.z≤p∧p < x'.o+off*x'.z+nw.length then nw[p-(x'.o+off*x'.z)]? else cells[p]?:=by
       intro p
       simp only[cs,Gs]
       have hA:(cells.toList.take (x'.o+off*x'.z)).length=x'.o+off*x'.z:=by simp; omega
       by_cases h1:p < x'.o+off*x'.z
       ·have h2:p < (cells.toList.take (x'.o+off*x'.z)).length:=by omega
        rw[Gt,Gf h2,Gl h1,if_neg (by omega)]; simp
       ·by_cases h2:p < x'.o+off*x'.z+nw.length
        ·have h3:p < (cells.toList.take (x'.o+off*x'.z)++nw).length:=by rw[Gi]; omega
         have h4:(cells.toList.take (x'.o+off*x'.z)).length≤p:=by omega
         rw[Gf h3,Gj h4,hA,if_pos ⟨by omega,h2⟩]
        ·have h3:(cells.toList.take (x'.o+off*x'.z)++nw).length≤p:=by rw[Gi]; omega
         rw[Gj h3,if_neg (by omega),Gq]
         simp only[Gi,hA]
         rw[show x'.o+off*x'.z+nw.length+(p-(x'.o+off*x'.z+nw.length))=p by omega]; simp
      have hxl:(xs.take n).length=n:=by simp; omega
      refine Jdh (nx:=.value (.int .i64 (n:Int))) hp hH hx' hb hz' (hrun _ _ hr) (.inl rfl) (by simp[cs]; omega) (by simp only[Gi,hxl,Gu,GV]; rw[show min off els.length+(n+(els.length-(off+n)))=els.length by omega]; exact hle') (fun q hq=>by rw[rd,if_neg (by omega)]) (fun j ee hj=>?_) (YA hcone hnone') (by simp[rel])
      by_cases hj1:j < off
      ·rw[Gf (by simp; omega),Gl hj1]at hj
       have:=hrow j ee hj
       refine ⟨this.1,fun t c hc=>?_⟩
       obtain ⟨r,hr1,hr2⟩:=this.2 t c hc
       have ht:t < x'.z:=this.1▸(Gd.1 hc).1
       have:(j+1)*x'.z≤off*x'.z:=Gg _ hj1
       rw[Gc,Gx]at this
       exact ⟨r,by show cs[_]? = _; rw[rd,if_neg (by omega)]; exact hr1,hr2⟩
      ·rw[Gj (by simp; omega)]at hj
       have e3:(els.take off).length=off:=by simp; omega
       rw[e3]at hj
       by_cases hj2:j < off+n
       ·rw[Gf (by rw[hxl]; omega),Gl (by omega)]at hj
        have hrx:=hok.relO (R:=fun i=>news[i]?) (o:=0) (fun i v hv=>by simpa using hv)
        have:=hrx _ ee hj
        rw[← hz0]at this
        refine ⟨this.1,fun t c hc=>?_⟩
        obtain ⟨r,hr1,hr2⟩:=this.2 t c hc
        have ht:t < x'.z:=this.1▸(Gd.1 hc).1
        simp only[Gw]at hr1
        have e4:j*x'.z=off*x'.z+(j-off)*x'.z:=by rw[← Gc]; congr 1; omega
        have e5:(j-off+1)*x'.z≤n*x'.z:=Gg _ (by omega)
        rw[Gc,Gx]at e5
        refine ⟨r,?_,hr2⟩
        show cs[_]? = _
        rw[rd,if_pos (by omega),show x'.o+j*x'.z+t-(x'.o+off*x'.z)=(j-off)*x'.z+t by omega]
        simp only[nw]
        rw[Gl (by rw[← hz0]; omega)]
        exact hr1
       ·rw[Gj (by rw[hxl]; omega),hxl,Gq,show off+n+(j-off-n)=j by omega]at hj
        have:=hrow j ee hj
        refine ⟨this.1,fun t c hc=>?_⟩
        obtain ⟨r,hr1,hr2⟩:=this.2 t c hc
        have:(off+n)*x'.z≤j*x'.z:=Gg _ (by omega)
        rw[Gc]at this
        exact ⟨r,by show cs[_]? = _; rw[rd,if_neg (by omega)]; exact hr1,hr2⟩
    ·cases he
   ·cases he
  ·rename_i z' cap e1
   rw[e1]at h1; simp only[rel]at h1
   simp only[Ga,Gb]at he
   obtain ⟨_,rfl,rfl⟩:=he
   rcases h1 with ⟨_,_,b,hv⟩ | ⟨B,q,rc,hv,hlc,hcap,hrow⟩
   ·exact Jl hp.sim (hrun _ _ (hzero _ _ hv)) rfl
   ·exact Jl hp.sim (hrun _ _ (hzero _ _ hv)) rfl
  ·cases he
theorem JdO {x:Option Operand}{y:Option IArg}(h:Qg x=some y):y=none↔x=none:=by
 cases x with
 |none=>simp[Qg]at h; simp[h.symm]
 |some x=>
  simp only[Qg]at h
  obtain ⟨b,_,rfl⟩:∃ b,Jv x=some b∧some b=y:=by cases hx:Jv x with | none=>simp[hx]at h | some b=>exact ⟨b,rfl,by simpa [hx]using h⟩
  simp
theorem QO {α β:Type}{f:α→β}{x:Option α}{y:β}(h:x.map f=some y):∃ a,x=some a∧f a=y:=by
 cases x with
 |none=>simp at h
 |some a=>exact ⟨a,rfl,by simpa using h⟩
theorem JfE {i:IOp}(hcomp:K8 P o.op=some i) (he:exec i T H=some (c,v,H')) (hc:c.holds) (hp:Pre E n0 m H w T a):Good P E n0 m H w (execOp a.eval o) v H':=by
 cases hop:o.op <;> rw[hop]at hcomp <;> simp only[K8]at hcomp
 case move x=>obtain ⟨b,hb,rfl⟩:=QO hcomp; exact snd_mv (.inl hop) hb he hp
 case assign x=>obtain ⟨b,hb,rfl⟩:=QO hcomp; exact snd_mv (.inr hop) hb he hp
 case pick x y z=>
  split at hcomp
  ·cases hcomp; exact snd_pick hop ‹_› ‹_› ‹_› he hp
  ·cases hcomp
 case alloc t=>obtain ⟨b,hb,rfl⟩:=QO hcomp; exact snd_alloc hop hb he hp
 case box t x=>obtain ⟨b,hb,rfl⟩:=QO hcomp; exact snd_box hop hb he hp
 case build t ps=>
  split at hcomp
  ·split at hcomp
   ·obtain ⟨b,hb,rfl⟩:=QO hcomp; exact snd_build hop ‹_› ‹_› ‹_› hb he hp
   ·cases hcomp
  ·split at hcomp
   ·obtain ⟨b,hb,rfl⟩:=QO hcomp; exact snd_buildA hop ‹_› ‹_› ‹_› hb he hp
   ·cases hcomp
  ·cases hcomp
 case buildSlice t n ps=>
  split at hcomp
  ·split at hcomp
   ·split at hcomp
    ·rename_i hcond; cases hcomp; exact snd_bslice hop ‹_› ‹_› ‹_› hcond.1 hcond.2 he hp
    ·cases hcomp
   ·cases hcomp
  ·cases hcomp
 case load t x=>
  split at hcomp
  ·cases hcomp; exact snd_load hop ‹_› ‹_› ‹_› he hc hp
  ·cases hcomp
 case store t x y=>
  split at hcomp
  ·cases hcomp; exact snd_store hop ‹_› ‹_› ‹_› he hc hp
  ·cases hcomp
 case binOp op t x y ty=>
  split at hcomp
  ·split at hcomp
   ·split at hcomp
    ·cases hcomp
    ·rename_i hg
     split at hcomp
     ·cases hcomp; exact snd_eqs hop ‹_› ‹_› (by simpa using hg) (.inl ⟨rfl,rfl⟩) ‹_› ‹_› he hp
     ·cases hcomp; exact snd_eqs hop ‹_› ‹_› (by simpa using hg) (.inr ⟨rfl,rfl⟩) ‹_› ‹_› he hp
     ·cases hcomp
   ·cases hcomp
  ·cases hcomp; exact snd_bin hop ‹_› ‹_› ‹_› he hc hp
  ·cases hcomp
 case unOp op t x=>
  cases op <;> simp only[K8]at hcomp <;> (try cases hcomp; done)
  ·obtain ⟨b,hb,rfl⟩:=QO hcomp; exact snd_neg hop hb he hc hp
  ·obtain ⟨b,hb,rfl⟩:=QO hcomp; exact snd_not hop hb he hp
 case convert s d x=>
  split at hcomp
  ·cases hcomp; exact snd_conv hop ‹_› ‹_› ‹_› he hc hp
  ·cases hcomp
 case makeFunc fn l1 l2=>
  cases fn <;> simp only[K8]at hcomp <;> (try cases hcomp; done)
  split at hcomp
  ·cases hcomp; exact snd_mkfn hop ‹_› ‹_› he hp
  ·cases hcomp
 case makeMap t r=>
  cases r <;> simp only[K8]at hcomp <;> (try cases hcomp; done)
  cases hcomp; exact snd_mkmap hop he hp
 case makeSlice t l c=>
  split at hcomp
  ·split at hcomp
   ·split at hcomp
    ·cases hcomp; exact snd_mkslice hop ‹_› ‹_› ‹_› ‹_› ‹_› ‹_› he hc hp
    ·cases hcomp
   ·cases hcomp
  ·cases hcomp
 case slice t x lo hi mx=>
  split at hcomp
  ·split at hcomp
   ·split at hcomp
    ·cases hcomp
    ·rename_i h1 h2 h3 h4 h5 hno
     simp only[Option.isNone_iff_eq_none,Bool.and_eq_true,Hd,ne_eq,JdO h4,JdO h5]at hno
     cases hcomp; exact snd_slice hop ‹_› h1 h2 h3 h4 h5 (by simpa [Hd]using hno) he hc hp
   ·cases hcomp
  ·split at hcomp
   ·cases hcomp; exact snd_sliceS hop ‹_› ‹_› ‹_› ‹_› he hc hp
   ·cases hcomp
  ·cases hcomp
 case fieldAddr t x f=>
  split at hcomp
  ·split at hcomp
   ·split at hcomp
    ·split at hcomp
     ·cases hcomp; exact snd_faddr hop ‹_› ‹_› ‹_› ‹_› ‹_› he hc hp
     ·cases hcomp
    ·cases hcomp
   ·cases hcomp
  ·cases hcomp
 case field t x f=>
  split at hcomp
  ·split at hcomp
   ·split at hcomp
    ·cases hcomp; exact snd_field hop ‹_› ‹_› ‹_› ‹_› ‹_› he hc hp
    ·cases hcomp
   ·cases hcomp
  ·cases hcomp
 case indexAddr t x i=>
  split at hcomp
  ·split at hcomp
   ·cases hcomp; exact snd_iaddr hop ‹_› ‹_› ‹_› ‹_› he hc hp
   ·cases hcomp
  ·cases hcomp
 case index t x i=>
  split at hcomp
  ·split at hcomp
   ·cases hcomp; exact snd_indexS hop ‹_› ‹_› ‹_› he hc hp
   ·cases hcomp
  ·cases hcomp
 case lookup t x k ok=>
  split at hcomp
  ·split at hcomp
   ·split at hcomp
    ·cases hcomp; exact snd_lookup hop ‹_› ‹_› ‹_› ‹_› ‹_› ‹_› he hp
    ·cases hcomp
   ·cases hcomp
  ·cases hcomp
 case mapUpdate t x k y=>
  split at hcomp
  ·split at hcomp
   ·split at hcomp
    ·cases hcomp; exact Je1 (.inl hop) ‹_› ‹_› ‹_› ‹_› ‹_› ‹_› he hp
    ·cases hcomp
   ·cases hcomp
  ·cases hcomp
 case insert t x k y=>
  split at hcomp
  ·split at hcomp
   ·split at hcomp
    ·cases hcomp; exact Je1 (.inr hop) ‹_› ‹_› ‹_› ‹_› ‹_› ‹_› he hp
    ·cases hcomp
   ·cases hcomp
  ·cases hcomp
 case nilCheck x=>obtain ⟨b,hb,rfl⟩:=QO hcomp; exact snd_nchk hop hb he hp
 case extract x k=>obtain ⟨b,hb,rfl⟩:=QO hcomp; exact snd_extract hop hb he hp
 case call cl=>
  split at hcomp
  ·split at hcomp
   ·split at hcomp
    ·obtain ⟨b,hb,rfl⟩:=QO hcomp; simp[exec]at he
    ·cases hcomp
   ·cases hcomp
  ·split at hcomp
   ·cases hcomp; simp[exec]at he
   ·cases hcomp
  ·split at hcomp
   ·split at hcomp
    ·obtain ⟨b,hb,rfl⟩:=QO hcomp; exact snd_len hop ‹_› ‹_› ‹_› ‹_› hb he hp
    ·cases hcomp
   ·cases hcomp
  ·split at hcomp
   ·split at hcomp
    ·split at hcomp
     ·split at hcomp
      ·cases hcomp; exact Je2 hop ‹_› ‹_› ‹_› ‹_› ‹_› (.inl ⟨_,rfl⟩) ‹_› ‹_› ‹_› ‹_› ‹_› he hc hp
      ·cases hcomp
     ·cases hcomp
    ·split at hcomp
     ·split at hcomp
      ·cases hcomp; exact Je2 hop ‹_› ‹_› ‹_› ‹_› ‹_› (.inr rfl) ‹_› ‹_› ‹_› ‹_› ‹_› he hc hp
      ·cases hcomp
     ·cases hcomp
    ·cases hcomp
   ·cases hcomp
  ·split at hcomp
   ·split at hcomp
    ·cases hcomp; exact snd_mx (big:=true) hop ‹_› ‹_› ‹_› ‹_› he hp
    ·cases hcomp
   ·cases hcomp
  ·split at hcomp
   ·split at hcomp
    ·cases hcomp; exact snd_mx (big:=false) hop ‹_› ‹_› ‹_› ‹_› he hp
    ·cases hcomp
   ·cases hcomp
  ·split at hcomp
   ·split at hcomp
    ·split at hcomp
     ·split at hcomp
      ·rename_i hz0; cases hcomp; exact snd_copy hop ‹_› ‹_› ‹_› ‹_› ‹_› hz0 ‹_› ‹_› he hc hp
      ·cases hcomp
     ·cases hcomp
    ·cases hcomp
   ·cases hcomp
  ·split at hcomp
   ·split at hcomp
    ·split at hcomp
     ·cases hcomp; exact snd_clear hop ‹_› ‹_› ‹_› ‹_› ‹_› ‹_› he hc hp
     ·cases hcomp
    ·cases hcomp
   ·cases hcomp
  ·cases hcomp
 all_goals (first | cases hcomp | skip)
end
end
section
inductive KItem where
 |code (c:ICode)
 |ops (l:List IOper)
 |blk (id:Nat)
def ICode.size:ICode→Nat
 |.skip=>1
 |.reg l=>l.length+2
 |.dreg l _=>l.length+2
 |.seq a b=>a.size+b.size+1
 |.cond _ a b=>a.size+b.size+1
 |.block _ a=>a.size+2
 |.loop a=>a.size+1
 |.rfunc _ _ a b=>a.size+b.size+1
 |.exit _=>1
 |.ret=>1
 |.bad=>1
def KItem.size:KItem→Nat
 |.code c=>c.size
 |.ops l=>l.length+1
 |.blk _=>1
def XR:List KItem→Nat
 |[]=>0
 |x::k=>x.size+XR k
def put (T:List CV) (d:Option Nat) (v:CV):List CV:=
 match d with
 |some d=>T.set d v
 |none=>T
def WF (ro:Option Nat):Fence:={ fn:=fun _=>True,depth:=none,alive:=false,round:=ro }
theorem Jaj (P:Program) (ro:Option Nat) (m:Machine):m.fenced P (WF ro):=by
 intro g _
 refine ⟨fun h=>?_,Or.inl trivial,fun _ _=>trivial,fun _ h=>?_⟩
 ·simp[WF]at h
 ·simp[WF]at h
theorem JdF (ro:Option Nat) (n:Nat):(WF ro).room n:=fun _ h=>by simp[WF]at h
theorem Jf1 {P:Program}{ro:Option Nat}{m m':Machine}(h:Steps P m m'):StepsIn (Machine.fenced P (WF ro)) P m m':=(StepsIn.of_steps h).mono fun m _=>Jaj P ro m
structure Fr where
 n:Nat
 rnd:Bool
def JcZ (N:Fr) (b:Frame) (m:Bk) (H:List CObj) (w:World) (ds:List Deferred):Prop:=
 (N.rnd=false→b.roundOf=none)∧N.n≤w.heap.size∧∃ Ds:List Nat,ds=Ds.map (fun D=>{ target:=.collected D,args:=#[] })∧Ds.Nodup∧∀ D∈Ds,N.n≤D∧w.heap[D]? = some (.deferred (some []))∧¬ owned m H D
theorem JcZ.ext {n0:Nat}{N:Fr}{b:Frame}{m m':Bk}{H H':List CObj}{w w':World}{ds:List Deferred}(h:JcZ N b m H w ds) (he:Ext n0 m H w m' H' w'):JcZ N b m' H' w' ds:=by
 obtain ⟨hb,hn,Ds,h1,h2,h3⟩:=h
 refine ⟨hb,GI hn he.size,Ds,h1,h2,fun D hD=>?_⟩
 obtain ⟨a,b,c⟩:=h3 D hD
 have hlt:D < w.heap.size:=(Array.getElem?_eq_some_iff.1 b).1
 refine ⟨a,(he.frame D hlt c).trans b,fun ho=>?_⟩
 rcases he.newOwn D ho with h | h
 ·exact c h
 ·omega
theorem JcZ.nil (N:Fr) (b:Frame) (hb:N.rnd=false→b.roundOf=none) (m:Bk) (H:List CObj) (w:World) (hn:N.n≤w.heap.size):JcZ N b m H w []:=⟨hb,hn,[],rfl,List.nodup_nil,fun D hD=>by cases hD⟩
section
variable (P:Program) (E:Env) (n0:Nat) (N:Fr)
def Reach (Q:Exit→List CV→List CObj→Prop) (b:Frame) (rest:List Item) (cs:List Frame) (m:Bk) (H:List CObj) (w:World) (mach:Machine):Prop:=
 ∃ e a' w' m' T' H',Ext n0 m H w m' H' w'∧Pre E n0 m' H' w' T' a'∧JcZ N b m' H' w' a'.defers∧Q e T' H'∧ArrivesIn (Machine.fenced P (WF none)) P mach b rest cs e a' w'
def CallsC (f:Nat) (args:List CV) (H:List CObj) (R:CV→List CObj→Prop):Prop:=
 ∀ m w (vs:Array Value),Sim E m H w→JE m.own m.imm args vs.toList→
  CallsIn (WF none) 0 P f vs w fun e w'=>∃ r m' v H',e=.returned r∧Ext H.length m H w m' H' w'∧Sim E m' H' w'∧rel m'.own m'.imm v r∧R v H'
def XC:List KItem→List Item→Prop
 |[],kr=>kr=[]
 |.code c::k,kr=>∃ c' kr',kr=.code c'::kr'∧Jw P c'=some c∧XC k kr'
 |.ops l::k,kr=>∃ ops is kr',kr=.inRegion ops is::kr'∧(is.length=l.length∧∀ (j i:Nat),is[j]? = some i→∃ o io,ops[i]? = some o∧l[j]? = some io∧Q6 P ops o=some io)∧XC k kr'
 |.blk id::k,kr=>∃ kr',kr=.inBlock id::kr'∧XC k kr'
def Ok (Q:Exit→List CV→List CObj→Prop) (k:List KItem) (T:List CV) (H:List CObj):Prop:=
 ∀ (m:Bk) (w:World) (a:Act) (b:Frame) (cs:List Frame) (kr rest:List Item),Pre E n0 m H w T a→JcZ N b m H w a.defers→XC P k kr→
  Reach P E n0 N Q b rest cs m H w (lone (b.atR a (kr++rest)) cs w)
end
section
variable {P:Program}{E:Env}{n0:Nat}{N:Fr}{Q:Exit→List CV→List CObj→Prop}{b:Frame}{rest:List Item}{cs:List Frame}{m m':Bk}{H H':List CObj}{w w':World}{mach mach':Machine}{T:List CV}{k:List KItem}
theorem Reach.step (h:Steps P mach mach') (he:Ext n0 m H w m' H' w') (hr:Reach P E n0 N Q b rest cs m' H' w' mach'):Reach P E n0 N Q b rest cs m H w mach:=by
 obtain ⟨e,a',w2,m2,T2,H2,h1,h2,h3,h4,h5⟩:=hr
 exact ⟨e,a',w2,m2,T2,H2,he.trans h1,h2,h3,h4,.of_steps (Jf1 h) h5⟩
theorem Reach.one (h:Go.step P mach=.next mach') (hr:Reach P E n0 N Q b rest cs m H w mach'):Reach P E n0 N Q b rest cs m H w mach:=
 Reach.step (Steps.one h) (Ext.refl _ _ _ _) hr
theorem ok_nil (h:Q .normal T H):Ok P E n0 N Q [] T H:=by
 intro m w a b cs kr rest hp hd hk
 simp only[XC]at hk; subst hk
 exact ⟨.normal,a,w,m,T,H,Ext.refl _ _ _ _,hp,hd,h,.refl _⟩
theorem ok_blk {id:Nat}(h:Ok P E n0 N Q k T H):Ok P E n0 N Q (.blk id::k) T H:=by
 intro m w a b cs kr rest hp hd hk
 simp only[XC]at hk
 obtain ⟨kr',rfl,hk'⟩:=hk
 exact Reach.one stepR_inBlock (h m w a b cs kr' rest hp hd hk')
theorem inv_skip {c:Code}(h:Jw P c=some .skip):c=.skip:=by
 cases c <;> simp only[Jw]at h <;> (repeat' split at h) <;> (try cases h) <;> rfl
theorem inv_ret {c:Code}(h:Jw P c=some .ret):c=.ret:=by
 cases c <;> simp only[Jw]at h <;> (repeat' split at h) <;> (try cases h) <;> rfl
theorem inv_exit {c:Code}{id:Nat}(h:Jw P c=some (.exit id)):c=.exit id:=by
 cases c <;> simp only[Jw]at h <;> (repeat' split at h) <;> (try cases h) <;> rfl
theorem inv_seq {c:Code}{x y:ICode}(h:Jw P c=some (.seq x y)):∃ a b,c=.seq a b∧Jw P a=some x∧Jw P b=some y:=by
 cases c <;> simp only[Jw]at h <;> (repeat' split at h) <;> (try cases h) <;> exact ⟨_,_,rfl,‹_›,‹_›⟩
theorem inv_cond {c:Code}{i:IArg}{x y:ICode}(h:Jw P c=some (.cond i x y)):∃ o a b,c=.cond o a b∧Jv o=some i∧Jw P a=some x∧Jw P b=some y:=by
 cases c <;> simp only[Jw]at h <;> (repeat' split at h) <;> (try cases h) <;> exact ⟨_,_,_,rfl,‹_›,‹_›,‹_›⟩
theorem inv_block {c:Code}{id:Nat}{x:ICode}(h:Jw P c=some (.block id x)):∃ a,c=.block id a∧Jw P a=some x:=by
 cases c <;> simp only[Jw]at h <;> (repeat' split at h) <;> (try cases h) <;> exact ⟨_,rfl,‹_›⟩
theorem inv_loop {c:Code}{x:ICode}(h:Jw P c=some (.loop x)):∃ a,c=.loop a∧Jw P a=some x:=by
 cases c <;> simp only[Jw]at h <;> (repeat' split at h) <;> (try cases h) <;> exact ⟨_,rfl,‹_›⟩
theorem inv_reg {c:Code}{l:List IOper}(h:Jw P c=some (.reg l)):∃ id ops,c=.region id ops false∧XM P ops ops.toList=some l:=by
 cases c <;> simp only[Jw]at h <;> (repeat' split at h) <;> (try cases h)
 rename_i id ops dr _ hdr hc
 obtain rfl:dr=false:=Bool.eq_false_iff.2 hdr
 exact ⟨id,ops,rfl,hc⟩
theorem Jde {c:Code}{l:List IOper}{es:List (List Nat)}(h:Jw P c=some (.dreg l es)):∃ id ops,c=.region id ops true∧XM P ops ops.toList=some l∧es=ops.toList.map Jal:=by
 cases c <;> simp only[Jw]at h <;> (repeat' split at h) <;> (try cases h)
 rename_i id ops dr _ hdr hc
 obtain rfl:dr=true:=hdr
 exact ⟨id,ops,rfl,hc,rfl⟩
theorem inv_rfunc {c:Code}{f:IArg}{ps:List Nat}{x y:ICode}(h:Jw P c=some (.rfunc f ps x y)):∃ g qs a b,c=.rangeFunc g qs a b∧Jv g=some f∧qs.toList=ps∧Jw P a=some x∧Jw P b=some y:=by
 cases c <;> simp only[Jw]at h <;> (repeat' split at h) <;> (try cases h) <;> exact ⟨_,_,_,_,rfl,‹_›,rfl,‹_›,‹_›⟩
theorem Qt {ops:Array Oper}:∀ (l:List Oper) (is:List IOper),XM P ops l=some is→is.length=l.length∧∀ (j:Nat) o,l[j]? = some o→∃ io,is[j]? = some io∧Q6 P ops o=some io
 |[],is,h=>by simp[XM]at h; subst h; simp
 |o::l,is,h=>by
  simp only[XM]at h
  split at h
  ·rename_i i is' h1 h2
   cases h
   obtain ⟨hl,hg⟩:=Qt l is' h2
   refine ⟨by simp[hl],fun j o' ho=>?_⟩
   cases j with
   |zero=>simp at ho; subst ho; exact ⟨i,rfl,h1⟩
   |succ j=>simpa using hg j o' (by simpa using ho)
  ·cases h
theorem ok_skip (h:Ok P E n0 N Q k T H):Ok P E n0 N Q (.code .skip::k) T H:=by
 intro m w a b cs kr rest hp hd hk
 simp only[XC]at hk
 obtain ⟨c',kr',rfl,hc,hk'⟩:=hk
 obtain rfl:=inv_skip hc
 exact Reach.one stepR_skip (h m w a b cs kr' rest hp hd hk')
theorem ok_seq {x y:ICode}(h:Ok P E n0 N Q (.code x :: .code y::k) T H):Ok P E n0 N Q (.code (.seq x y)::k) T H:=by
 intro m w a b cs kr rest hp hd hk
 simp only[XC]at hk
 obtain ⟨c',kr',rfl,hc,hk'⟩:=hk
 obtain ⟨c1,c2,rfl,h1,h2⟩:=inv_seq hc
 refine Reach.one stepR_seq (h m w a b cs (.code c1 :: .code c2::kr') rest hp hd ?_)
 simp only[XC]
 exact ⟨c1,_,rfl,h1,c2,_,rfl,h2,hk'⟩
theorem ok_block {id:Nat}{x:ICode}(h:Ok P E n0 N Q (.code x :: .blk id::k) T H):Ok P E n0 N Q (.code (.block id x)::k) T H:=by
 intro m w a b cs kr rest hp hd hk
 simp only[XC]at hk
 obtain ⟨c',kr',rfl,hc,hk'⟩:=hk
 obtain ⟨c1,rfl,h1⟩:=inv_block hc
 refine Reach.one stepR_block (h m w a b cs (.code c1 :: .inBlock id::kr') rest hp hd ?_)
 simp only[XC]
 exact ⟨c1,_,rfl,h1,_,rfl,hk'⟩
theorem ok_cond {i:IArg}{x y:ICode}{t:Bool}(hi:JQ T i=.bool t) (h:Ok P E n0 N Q (.code (if t then x else y)::k) T H):Ok P E n0 N Q (.code (.cond i x y)::k) T H:=by
 intro m w a b cs kr rest hp hd hk
 simp only[XC]at hk
 obtain ⟨c',kr',rfl,hc,hk'⟩:=hk
 obtain ⟨o,c1,c2,rfl,h0,h1,h2⟩:=inv_cond hc
 have hr:=Jy (a:=a) hp.tmps h0
 rw[hi]at hr; simp only[rel]at hr
 refine Reach.one (stepR_cond hr) (h m w a b cs (.code (if t then c1 else c2)::kr') rest hp hd ?_)
 simp only[XC]
 exact ⟨_,_,rfl,by cases t <;> simp[h1,h2],hk'⟩
theorem ok_ret (h:Q .ret T H):Ok P E n0 N Q (.code .ret::k) T H:=by
 intro m w a b cs kr rest hp hd hk
 simp only[XC]at hk
 obtain ⟨c',kr',rfl,hc,hk'⟩:=hk
 obtain rfl:=inv_ret hc
 exact ⟨.ret,a,w,m,T,H,Ext.refl _ _ _ _,hp,hd,h,fun hn=>⟨_,.one (Jaj _ _ _) (stepR_ret hn)⟩,fun _=>⟨_,.refl _⟩⟩
theorem ok_reg {l:List IOper}(h:Ok P E n0 N Q (.ops l::k) T H):Ok P E n0 N Q (.code (.reg l)::k) T H:=by
 intro m w a b cs kr rest hp hd hk
 simp only[XC]at hk
 obtain ⟨c',kr',rfl,hc,hk'⟩:=hk
 obtain ⟨id,ops,rfl,h1⟩:=inv_reg hc
 obtain ⟨hl,hg⟩:=Qt _ _ h1
 refine Reach.one stepR_region (h m w a b cs (.inRegion ops (List.range ops.size)::kr') rest hp hd ?_)
 simp only[XC]
 refine ⟨ops,_,_,rfl,⟨by simp[hl],fun j i hj=>?_⟩,hk'⟩
 have hlt:j < ops.size:=by have:=(Gd.1 hj).1; simpa using this
 have:i=j:=by have:=(Gd.1 hj).2; simpa using this.symm
 subst this
 obtain ⟨io,h2,h3⟩:=hg i ops[i] (by simp[hlt])
 exact ⟨ops[i],io,by simp[hlt],h2,h3⟩
theorem Ym (h:Ok P E n0 N Q k T H):Ok P E n0 N Q (.ops []::k) T H:=by
 intro m w a b cs kr rest hp hd hk
 simp only[XC]at hk
 obtain ⟨ops,is,kr',rfl,⟨hl,_⟩,hk'⟩:=hk
 obtain rfl:is=[]:=Gn (by simpa using hl)
 exact Reach.one stepR_region_end (h m w a b cs kr' rest hp hd hk')
theorem Ja6 {a:Act}{n0:Nat}{d:Option Nat}{v:CV}{r:Value}(hs:Sim E m H w) (ht:JE m.own m.imm T a.tmps.toList) (hl:n0≤H.length) (hr:rel m.own m.imm v r):Pre E n0 m H w (put T d v) (a.put d r):=by
 refine ⟨hs,?_,hl⟩
 cases d with
 |none=>exact ht
 |some d=>
  simp only[put,Act.put]
  have:=rels_set ht d hr
  simpa using this
theorem put_defers {a:Act}{d:Option Nat}{r:Value}:(a.put d r).defers=a.defers:=by cases d <;> rfl
theorem semAt_plain {ro:Option Nat}{ρ:Operand→Value}{o:Oper}{i:IOp}(h:K8 P o.op=some i):o.semAt ro ρ=execOp ρ o:=
 Oper.semAt_eq ro ρ o fun c hc=>by rw[hc]at h; simp[K8]at h
theorem wanted_none {ops:Array Oper}{o:Oper}{io:IOper}{tmps:Array Value}(h:Q6 P ops o=some io) (hg:io.guard=none):Region.wanted o (yielded ops tmps)=true∧o.dst=io.dst∧K8 P o.op=some io.op:=by
 unfold Q6 at h
 split at h
 ·cases h
 ·rename_i i hi
  split at h
  ·rename_i hgo
   cases h
   exact ⟨by simp[Region.wanted,hgo],rfl,hi⟩
  ·split at h
   ·cases h; simp at hg
   ·cases h
theorem Jdp {ops:Array Oper}{o:Oper}{io:IOper}{a:Act}{own:List Own}{imm:Nat→Nat→Option Value}{g:Nat}{want t:Bool}(h:Q6 P ops o=some io) (hg:io.guard=some (g,want)) (hT:JE own imm T a.tmps.toList) (hb:T.getD g .un=.bool t) :
  Region.wanted o (yielded ops a.tmps)=(t == want)∧o.dst=io.dst∧K8 P o.op=some io.op:=by
 unfold Q6 at h
 split at h
 ·cases h
 ·rename_i i hi
  split at h
  ·cases h; simp at hg
  ·rename_i j wt hgo
   split at h
   ·rename_i d hdst
    cases h
    simp only[Ga,Gb]at hg
    obtain ⟨rfl,rfl⟩:=hg
    refine ⟨?_,rfl,hi⟩
    have hlt:d < T.length:=by
     rcases G5 d T.length with h1 | h1
     ·exact h1
     ·rw[GA,Gy h1]at hb; cases hb
    obtain ⟨u,hu,hr⟩:=Xj hT (Gp hlt)
    have e1:T[d]=.bool t:=by rw[← hb]; simp[GA,Gp hlt]
    rw[e1]at hr; simp only[rel]at hr
    subst hr
    have hu':a.tmps[d]? = some (.bool t):=by simpa using hu
    have:yielded ops a.tmps j=some t:=by simp only[yielded,hdst,GK,hu']
    simp only[Region.wanted,hgo,this]
    cases t <;> cases wt <;> rfl
   ·cases h
theorem Jay {ops:Array Oper}{i:Nat}{is:List Nat}{o:Oper}{a:Act}{r:Value}{nx:Next}{kr:List Item}(ho:ops[i]? = some o) (hw:Region.wanted o (yielded ops a.tmps)=true) (hsem:o.semAt b.roundOf a.eval=execOp a.eval o) (hrun:(execOp a.eval o).run P w=.ok nx w') (hnx:nx=.value r∨(nx=.skip∧r=undef)) :
  Go.step P (lone (b.atR a (.inRegion ops (i::is)::kr)) cs w)=.next (lone (b.atR (a.put o.dst r) (.inRegion ops is::kr)) cs w'):=by
 have hg:=stepGR_op (P:=P) (b:=b) (k:=kr) (cs:=cs) (w:=w) (rest:=is) ho hw
 rw[hsem]at hg
 have hfin:∀ v,(b.atR a (.inRegion ops (i::is)::kr)).finish v=b.atR (a.put o.dst v) (.inRegion ops is::kr):=by
  intro v; rw[Frame.finish_atR,ho]; rfl
 refine step_lone_go ?_
 rcases hnx with rfl | ⟨rfl,rfl⟩
 ·rw[hg,← hfin]; simp[stepG.apply,hrun]
 ·rw[hg,← hfin]; simp[stepG.apply,hrun]
theorem Yz {l:List IOper}{io:IOper}{kr:List Item}(h:XC P (.ops (io::l)::k) kr):∃ ops i is kr' o,kr=.inRegion ops (i::is)::kr'∧ops[i]? = some o∧Q6 P ops o=some io∧XC P (.ops l::k) (.inRegion ops is::kr'):=by
 simp only[XC]at h
 obtain ⟨ops,is,kr',rfl,⟨hl,hg⟩,hk'⟩:=h
 cases is with
 |nil=>simp at hl
 |cons i is=>
  obtain ⟨o,io',h1,h2,h3⟩:=hg 0 i rfl
  simp at h2; subst h2
  refine ⟨ops,i,is,kr',o,rfl,h1,h3,?_⟩
  simp only[XC]
  exact ⟨ops,is,kr',rfl,⟨by simpa using hl,fun j i' hj=>by simpa using hg (j+1) i' (by simpa using hj)⟩,hk'⟩
def GOk (T:List CV) (g:Option (Nat×Bool)):Prop:=g=none∨∃ s want,g=some (s,want)∧T.getD s .un=.bool want
theorem Yh {ops:Array Oper}{o:Oper}{io:IOper}{a:Act}{own:List Own}{imm:Nat→Nat→Option Value}(h:Q6 P ops o=some io) (hg:GOk T io.guard) (hT:JE own imm T a.tmps.toList) :
  Region.wanted o (yielded ops a.tmps)=true∧o.dst=io.dst∧K8 P o.op=some io.op:=by
 rcases hg with hg | ⟨s,want,hg,hb⟩
 ·exact wanted_none h hg
 ·obtain ⟨h1,h2,h3⟩:=Jdp h hg hT hb
  exact ⟨by rw[h1]; simp,h2,h3⟩
theorem Jcr {io:IOper}{l:List IOper}{c:Cond}{v:CV}(hg:GOk T io.guard) (he:exec io.op T H=some (c,v,H')) (hc:c.holds) (h:Ok P E n0 N Q (.ops l::k) (put T io.dst v) H'):Ok P E n0 N Q (.ops (io::l)::k) T H:=by
 intro m w a b cs kr rest hp hd hk
 obtain ⟨ops,i,is,kr',o,rfl,ho,hco,hk'⟩:=Yz hk
 obtain ⟨hw,hdst,hop⟩:=Yh hco hg hp.tmps
 obtain ⟨m',w',r,nx,hrun,hnx,hext,hsim,hrel,hown⟩:=JfE hop he hc hp
 have hst:=Jay (b:=b) (cs:=cs) (is:=is) (kr:=kr'++rest) ho hw (semAt_plain hop) hrun hnx
 rw[hdst]at hst
 have hlen:n0≤H'.length:=by rw[← hsim.len]; exact hext.long (by rw[hp.sim.len]; exact hp.long)
 refine Reach.step (.one hst) hext (h m' w' _ b cs (.inRegion ops is::kr') rest (Ja6 hsim (Ki hown hext.imm _ _ hp.tmps) hlen hrel) ?_ hk')
 rw[put_defers]; exact hd.ext hext
theorem wanted_skip {ops:Array Oper}{o:Oper}{io:IOper}{a:Act}{own:List Own}{imm:Nat→Nat→Option Value}{g:Nat}{want:Bool}(h:Q6 P ops o=some io) (hg:io.guard=some (g,want)) (hT:JE own imm T a.tmps.toList) (hb:T.getD g .un=.tup []) :
  Region.wanted o (yielded ops a.tmps)=false∧o.dst=io.dst:=by
 unfold Q6 at h
 split at h
 ·cases h
 ·rename_i i hi
  split at h
  ·cases h; simp at hg
  ·rename_i j wt hgo
   split at h
   ·rename_i d hdst
    cases h
    simp only[Ga,Gb]at hg
    obtain ⟨rfl,rfl⟩:=hg
    refine ⟨?_,rfl⟩
    have hlt:d < T.length:=by
     rcases G5 d T.length with h1 | h1
     ·exact h1
     ·rw[GA,Gy h1]at hb; cases hb
    obtain ⟨u,hu,hr⟩:=Xj hT (Gp hlt)
    have e1:T[d]=.tup []:=by rw[← hb]; simp[GA,Gp hlt]
    rw[e1]at hr; simp only[rel]at hr
    obtain ⟨vs,rfl,_⟩:=hr
    have hu':a.tmps[d]? = some (.tuple vs):=by simpa using hu
    have:yielded ops a.tmps j=none:=by simp only[yielded,hdst,GK,hu']
    simp only[Region.wanted,hgo,this]
    rfl
   ·cases h
theorem Jad {io:IOper}{g:Nat}{want:Bool}{l:List IOper}(hgd:io.guard=some (g,want)) (hg:T.getD g .un=.bool (!want)∨T.getD g .un=.tup []) (h:Ok P E n0 N Q (.ops l::k) (put T io.dst (.tup [])) H):Ok P E n0 N Q (.ops (io::l)::k) T H:=by
 intro m w a b cs kr rest hp hd hk
 obtain ⟨ops,i,is,kr',o,rfl,ho,hco,hk'⟩:=Yz hk
 have hwd:Region.wanted o (yielded ops a.tmps)=false∧o.dst=io.dst:=by
  rcases hg with hg | hg
  ·obtain ⟨hw,hdst,hop⟩:=Jdp hco hgd hp.tmps hg
   exact ⟨by rw[hw]; cases want <;> rfl,hdst⟩
  ·exact wanted_skip hco hgd hp.tmps hg
 obtain ⟨hw',hdst⟩:=hwd
 have hst:=stepR_op_skip (P:=P) (b:=b) (a:=a) (k:=kr'++rest) (cs:=cs) (w:=w) (ops:=ops) (i:=i) (rest:=is) (by simp[ho,hw'])
 simp only[ho,GK]at hst
 rw[hdst]at hst
 exact Reach.one hst (h m w _ b cs (.inRegion ops is::kr') rest (Ja6 hp.sim hp.tmps hp.long (by simp[rel,JE,undef])) (by rw[put_defers]; exact hd) hk')
theorem step_call {ops:Array Oper}{i:Nat}{is:List Nat}{o:Oper}{a:Act}{kr:List Item}{f:Nat}{vs:Array Value}{R:Ending→World→Prop}(ho:ops[i]? = some o) (hw:Region.wanted o (yielded ops a.tmps)=true) (hsem:o.semAt b.roundOf a.eval=execOp a.eval o) (hrun:(execOp a.eval o).run P w=.ok (.enter f vs) w)
  (hcall:CallsIn (WF none) 0 P f vs w R) (hR:∀ e w',R e w'→∃ r,e=.returned r):∃ r w',R (.returned r) w'∧Steps P (lone (b.atR a (.inRegion ops (i::is)::kr)) cs w) (lone (b.atR (a.put o.dst r) (.inRegion ops is::kr)) cs w'):=by
 have hg:=stepGR_op (P:=P) (b:=b) (k:=kr) (cs:=cs) (w:=w) (rest:=is) ho hw
 rw[hsem]at hg
 have hfin:∀ v,(b.atR a (.inRegion ops (i::is)::kr)).finish v=b.atR (a.put o.dst v) (.inRegion ops is::kr):=by
  intro v; rw[Frame.finish_atR,ho]; rfl
 obtain ⟨e,w'',fr,hRe,hsteps,hfn,hleave⟩:=hcall.2 (b.atR a (.inRegion ops (i::is)::kr)::cs) (JdF _ _)
 have henter:Go.step P (lone (b.atR a (.inRegion ops (i::is)::kr)) cs w)=.next (lone (Frame.enter P f vs .normal) (b.atR a (.inRegion ops (i::is)::kr)::cs) w):=
  step_lone_go (by rw[hg]; simp[stepG.apply,hrun,Frame.atR])
 obtain ⟨r,rfl⟩:=hR e w'' hRe
 refine ⟨r,w'',hRe,.head henter (Steps.trans (StepsIn.steps hsteps) (.one ?_))⟩
 rw[← hfin]; exact step_leave_returned hleave
theorem Jfh {io:IOper}{l:List IOper}{f:Nat}{args:List CV}{R:CV→List CObj→Prop}(hg:GOk T io.guard) (hcall:CallsC P E f args H R) (h:∀ v H',R v H'→Ok P E n0 N Q (.ops l::k) (put T io.dst v) H')
  (hrun:∀ (m:Bk) (w:World) (a:Act) (o:Oper),Pre E n0 m H w T a→K8 P o.op=some io.op→∃ vs:Array Value,(execOp a.eval o).run P w=.ok (.enter f vs) w∧JE m.own m.imm args vs.toList):Ok P E n0 N Q (.ops (io::l)::k) T H:=by
 intro m w a b cs kr rest hp hd hk
 obtain ⟨ops,i,is,kr',o,rfl,ho,hco,hk'⟩:=Yz hk
 obtain ⟨hw,hdst,hop⟩:=Yh hco hg hp.tmps
 obtain ⟨vs,hr1,hvs⟩:=hrun m w a o hp hop
 obtain ⟨r,w',⟨r',m',v,H',hre,hext,hsim,hrel,hRv⟩,hsteps⟩:=step_call (b:=b) (cs:=cs) (is:=is) (kr:=kr'++rest) ho hw (semAt_plain hop) hr1 (hcall m w vs hp.sim hvs) (fun e w' ⟨r,_,_,_,h,_⟩=>⟨r,h⟩)
 cases hre
 rw[hdst]at hsteps
 have hown:Kg m.own m'.own:=fun j x hj=>hext.base j x (by rw[← hp.sim.len]; exact (Gd.1 hj).1) hj
 have hext':Ext n0 m H w m' H' w':={ hext with base:=fun j x hj hx=>hown j x hx,long:=fun h=>GI (by rw[← hp.sim.len]at *; exact GI (by have:=hp.long; rw[← hp.sim.len]at this; exact this) (Gh _)) (hext.long (by rw[hp.sim.len]; exact Gh _)) }
 have hlen:n0≤H'.length:=by rw[← hsim.len]; exact hext'.long (by rw[hp.sim.len]; exact hp.long)
 refine Reach.step hsteps hext' (h v H' hRv m' w' _ b cs (.inRegion ops is::kr') rest (Ja6 hsim (Ki hown hext.imm _ _ hp.tmps) hlen hrel) ?_ hk')
 rw[put_defers]; exact hd.ext hext'
theorem Y9 {f:Nat}{fn:Func}{vs:Array Value}(hf:P.funcs[f]? = some fn) (hb:fn.body.isSome=true) (hn:fn.name≠ "runtime.NumGoroutine"):(callFunc f vs).run P w=.ok (.enter f vs) w:=by
 have hn':(fn.name == "runtime.NumGoroutine")=false:=by simpa using hn
 have hb':fn.body.isNone=false:=by cases h:fn.body <;> simp_all
 simp only[callFunc,Sem.run_bind,run_program,Result.andThen_ok,hf,hn',hb',Bool.false_eq_true,if_false,Sem.run_pure]
theorem invo_call {op:Op}{f:Nat}{as:List IArg}(h:K8 P op=some (.call f as)):∃ cl fn,op=.call cl∧cl.callee=.value (.func f)∧P.funcs[f]? = some fn∧fn.body.isSome=true∧fn.name≠ "runtime.NumGoroutine" ∧Y2 cl.args.toList=some as:=by
 unfold K8 at h
 split at h
 all_goals (repeat' split at h)
 all_goals first
  |(cases h; done)
  |(obtain ⟨_,_,h9⟩:=QO h; cases h9; done)
  |skip
 obtain ⟨as',h8,h9⟩:=QO h
 cases h9
 have hcond:=‹(Option.isSome _ && _)=true›
 simp only[Bool.and_eq_true,bne_iff_ne,ne_eq]at hcond
 exact ⟨_,_,rfl,‹_›,‹_›,hcond.1,hcond.2,h8⟩
theorem Jfr {op:Op}{x:IArg}{as:List IArg}(h:K8 P op=some (.callv x as)):∃ cl xo,op=.call cl∧cl.callee=.value xo∧Jv xo=some x∧Y2 cl.args.toList=some as:=by
 unfold K8 at h
 split at h
 all_goals (repeat' split at h)
 all_goals first
  |(cases h; done)
  |(obtain ⟨_,_,h9⟩:=QO h; cases h9; done)
  |skip
 cases h
 exact ⟨_,_,rfl,‹_›,‹_›,‹_›⟩
theorem Ja8 {d:Option Nat}{g:Option (Nat×Bool)}{f:Nat}{as:List IArg}{l:List IOper}{R:CV→List CObj→Prop}(hg:GOk T g) (hcall:CallsC P E f (as.map (JQ T)) H R) (h:∀ v H',R v H'→Ok P E n0 N Q (.ops l::k) (put T d v) H'):Ok P E n0 N Q (.ops (⟨d,.call f as,g⟩::l)::k) T H:=by
 refine Jfh (io:=⟨d,.call f as,g⟩) hg hcall h (fun m w a o hp hop=>?_)
 obtain ⟨cl,fn,ho,hcal,hfn,hb,hn,has⟩:=invo_call hop
 refine ⟨cl.args.map a.eval,?_,by simpa using JaN hp.tmps has⟩
 simp only[execOp,ho,resolve,hcal,Act.eval,Deferred.ofValue,Sem.run_bind,Sem.run_pure,Result.andThen_ok,invoke]
 simpa using Y9 (vs:=cl.args.map a.eval) hfn hb hn
theorem JbN {d:Option Nat}{g:Option (Nat×Bool)}{x:IArg}{f:Nat}{l1 l2:List CV}{as:List IArg}{l:List IOper}{R:CV→List CObj→Prop}{fn:Func}(hg:GOk T g) (hx:JQ T x=.fn f l1 l2) (hfn:P.funcs[f]? = some fn) (hb:fn.body.isSome=true) (hn:fn.name≠ "runtime.NumGoroutine")
  (hcall:CallsC P E f (l1++as.map (JQ T)++l2) H R) (h:∀ v H',R v H'→Ok P E n0 N Q (.ops l::k) (put T d v) H'):Ok P E n0 N Q (.ops (⟨d,.callv x as,g⟩::l)::k) T H:=by
 refine Jfh (io:=⟨d,.callv x as,g⟩) hg hcall h (fun m w a o hp hop=>?_)
 obtain ⟨cl,xo,ho,hcal,hxo,has⟩:=Jfr hop
 have hr:=Jy (a:=a) hp.tmps hxo
 rw[hx]at hr; simp only[rel]at hr
 obtain ⟨v1,v2,hv,hr1,hr2⟩:=hr
 refine ⟨v1++cl.args.map a.eval++v2,?_,by simpa using Qf hr1 (Qf (JaN hp.tmps has) hr2)⟩
 simp only[execOp,ho,resolve,hcal,hv,Deferred.ofValue,Sem.run_bind,Sem.run_pure,Result.andThen_ok,invoke]
 exact Y9 hfn hb hn
end
end
section
section
variable {P:Program}{E:Env}{n0:Nat}{N:Fr}{Q:Exit→List CV→List CObj→Prop}{b:Frame}{rest:List Item}{cs:List Frame}{m m':Bk}{H H':List CObj}{w w':World}{T:List CV}{k:List KItem}
def Xb (id:Nat):List KItem→Option (List KItem)
 |[]=>none
 |.blk id'::k=>if id'=id then some k else Xb id k
 |.code _::k=>Xb id k
 |.ops _::k=>Xb id k
theorem XK {id:Nat}{rest:List Item}:∀ (k:List KItem) (kr:List Item),XC P k kr→
  match Xb id k with
  |some k'=>∃ kr',XC P k' kr'∧exitTo id (kr++rest)=some (kr'++rest)
  |none=>exitTo id (kr++rest)=exitTo id rest
 |[],kr,h=>by simp only[XC]at h; subst h; simp[Xb]
 |.blk id'::k,kr,h=>by
  simp only[XC]at h
  obtain ⟨kr',rfl,hk⟩:=h
  simp only[Xb]
  by_cases he:id'=id
  ·subst he; simp only[if_true]; exact ⟨kr',hk,by simp[exitTo]⟩
  ·have:=XK (id:=id) (rest:=rest) k kr' hk
   have e2:exitTo id (.inBlock id'::kr'++rest)=exitTo id (kr'++rest):=by simp[exitTo,he]
   rw[if_neg he,e2]
   exact this
 |.code _::k,kr,h=>by
  simp only[XC]at h
  obtain ⟨c',kr',rfl,_,hk⟩:=h
  have:=XK (id:=id) (rest:=rest) k kr' hk
  have e2:exitTo id (.code c'::kr'++rest)=exitTo id (kr'++rest):=by simp[exitTo]
  simp only[Xb]; rw[e2]; exact this
 |.ops _::k,kr,h=>by
  simp only[XC]at h
  obtain ⟨ops,is,kr',rfl,_,hk⟩:=h
  have:=XK (id:=id) (rest:=rest) k kr' hk
  have e2:exitTo id (.inRegion ops is::kr'++rest)=exitTo id (kr'++rest):=by simp[exitTo]
  simp only[Xb]; rw[e2]; exact this
theorem Jgh {id:Nat}(h:match Xb id k with | some k'=>Ok P E n0 N Q k' T H | none=>Q (.exit id) T H):Ok P E n0 N Q (.code (.exit id)::k) T H:=by
 intro m w a b cs kr rest hp hd hk
 simp only[XC]at hk
 obtain ⟨c',kr',rfl,hc,hk'⟩:=hk
 obtain rfl:=inv_exit hc
 have hx:=XK (id:=id) (rest:=rest) k kr' hk'
 cases hxe:Xb id k with
 |some k'=>
  rw[hxe]at h hx
  obtain ⟨kr2,hk2,he⟩:=hx
  exact Reach.one (stepR_exit he) (h m w a b cs kr2 rest hp hd hk2)
 |none=>
  rw[hxe]at h hx
  simp only at hx
  refine ⟨.exit id,a,w,m,T,H,Ext.refl _ _ _ _,hp,hd,h,fun k' hk'=>.one (Jaj _ _ _) (stepR_exit (k:=kr'++rest) (hx.trans hk')),fun _ hn=>⟨kr'++rest,hx.trans hn,.refl _⟩⟩
def loopQ (P:Program) (E:Env) (n0:Nat) (N:Fr) (Q:Exit→List CV→List CObj→Prop) (k:List KItem) (I:List CV→List CObj→Prop):Exit→List CV→List CObj→Prop
 |.normal,T,H=>I T H
 |.exit id,T,H=>match Xb id k with
  |some k'=>Ok P E n0 N Q k' T H
  |none=>Q (.exit id) T H
 |.ret,T,H=>Q .ret T H
 |_,_,_=>False
theorem ok_loop {x:ICode}{σ:Type}(I:σ→List CV→List CObj→Prop) (μ:σ→Nat) (s0:σ) (h0:I s0 T H) (hb:∀ s T H,I s T H→Ok P E n0 N (loopQ P E n0 N Q k fun T' H'=>∃ s',I s' T' H'∧μ s' < μ s) [.code x] T H):Ok P E n0 N Q (.code (.loop x)::k) T H:=by
 intro m w a b cs kr rest hp hd hk
 simp only[XC]at hk
 obtain ⟨c',kr',rfl,hc,hk'⟩:=hk
 obtain ⟨c1,rfl,h1⟩:=inv_loop hc
 refine Reach.one stepR_loop ?_
 have key:∀ j s T H m w a,μ s=j→I s T H→Pre E n0 m H w T a→JcZ N b m H w a.defers→Reach P E n0 N Q b rest cs m H w (lone (b.atR a (.code c1 :: .inLoop c1::(kr'++rest))) cs w):=by
  intro j
  induction j using GY with
  |_ j ih=>
   intro s T H m w a hj hI hp hd
   have hkr:XC P [.code x] [.code c1]:=by simp only[XC]; exact ⟨c1,[],rfl,h1,rfl⟩
   obtain ⟨e,a',w',m',T',H',hext,hp',hd',hq,harr⟩:=hb s T H hI m w a b cs [.code c1] (.inLoop c1::(kr'++rest)) hp hd hkr
   cases e with
   |normal=>
    simp only[loopQ]at hq
    obtain ⟨s',hI',hlt⟩:=hq
    have:=ih (μ s') (by omega) s' T' H' m' w' a' rfl hI' hp' hd'
    refine Reach.step (StepsIn.steps harr) hext (Reach.one stepR_inLoop this)
   |exit id=>
    simp only[loopQ]at hq
    have e1:exitTo id (.inLoop c1::(kr'++rest))=exitTo id (kr'++rest):=by simp[exitTo]
    have hx:=XK (id:=id) (rest:=rest) k kr' hk'
    cases hxe:Xb id k with
    |some k'=>
     rw[hxe]at hq hx
     obtain ⟨kr2,hk2,he⟩:=hx
     exact Reach.step (StepsIn.steps (harr.1 _ (e1.trans he))) hext (hq m' w' a' b cs kr2 rest hp' hd' hk2)
    |none=>
     rw[hxe]at hq hx
     simp only at hx
     refine ⟨.exit id,a',w',m',T',H',hext,hp',hd',hq,fun k' hk'=>harr.1 k' (by rw[e1,hx]; exact hk'),fun hr hn=>?_⟩
     exact harr.2 hr (by rw[e1,hx]; exact hn)
   |ret=>exact ⟨.ret,a',w',m',T',H',hext,hp',hd',hq,harr⟩
   |goto l=>exact hq.elim
   |panic ch=>exact hq.elim
   |outgrown=>exact hq.elim
 have:=key _ s0 T H m w a rfl h0 hp hd
 simpa using this
def JaV (T:List CV) (H:List CObj):RVar→Option (Cond×CV)
 |.tmp t=>some (.tt,T.getD t .un)
 |.cell ag n t=>match exec (.load ag n (.s t)) T H with
  |some (c,v,_)=>some (c,v)
  |none=>none
def Qe (T:List CV) (H:List CObj):List RVar→Option (Cond×List CV)
 |[]=>some (.tt,[])
 |x::l=>match JaV T H x,Qe T H l with
  |some (c,v),some (c',vs)=>some (.and c c',v::vs)
  |_,_=>none
def resK (r:Option (Cond×List CV)) (R:CV→List CObj→Prop) (H:List CObj):Prop:=
 match r with
 |some (c,[v])=>c.holds∧R v H
 |some (c,vs)=>c.holds∧R (.tup vs) H
 |none=>False
def retQ (ts:List RVar) (R:CV→List CObj→Prop):Exit→List CV→List CObj→Prop
 |.normal,T,H=>resK (Qe T H ts) R H
 |.ret,T,H=>resK (Qe T H ts) R H
 |_,_,_=>False
theorem runOne {x:ResultVar}{a:Act}{rv:RVar}{c:Cond}{v:CV}(hx:(∃ t,x=.tmp t∧rv=.tmp t)∨(∃ s t ag n,x=.cell s t∧rv=.cell ag n s∧Jav P t=some ag∧JcD P t=some n)) (hp:Pre E n0 m H w T a) (h:JaV T H rv=some (c,v)) (hc:c.holds) :
  ∃ r,rel m.own m.imm v r∧(match x with | .tmp t=>(pure (a.tmps.getD t undef):Sem Value) | .cell s t=>do loadVar t (← asAddr (a.tmps.getD s undef))).run P w=.ok r w:=by
 rcases hx with ⟨t,rfl,rfl⟩ | ⟨s,t,ag,n,rfl,rfl,hag,hn⟩
 ·simp only[JaV,Ga,Gb]at h
  obtain ⟨rfl,rfl⟩:=h
  exact ⟨_,getD_rel hp.tmps t,rfl⟩
 ·simp only[JaV]at h
  split at h
  ·rename_i c' v' H' he
   simp only[Ga,Gb]at h
   obtain ⟨rfl,rfl⟩:=h
   obtain ⟨rfl,ad,r,hv,hr,hrel⟩:=load_val (x:=.tmp s) (i:=.s s) hag hn rfl he hc hp
   have hv':a.tmps.getD s undef=.pointer (some ad):=hv
   exact ⟨r,hrel,by simp only[Sem.run_bind,hv',asAddr,Sem.run_pure,Result.andThen_ok,hr]⟩
  ·cases h
theorem run_results {fn:Func}{ts:List RVar}{a:Act}{R:CV→List CObj→Prop}(hr:Yw P fn.results.toList=some ts) (hp:Pre E n0 m H w T a) (hk:resK (Qe T H ts) R H):∃ v cv,(results fn a.tmps).run P w=.ok v w∧rel m.own m.imm cv v∧R cv H:=by
 have key:∀ (l:List ResultVar) (ts:List RVar) (c:Cond) (vs:List CV),Yw P l=some ts→Qe T H ts=some (c,vs)→c.holds→∃ rs,JE m.own m.imm vs rs∧rs.length=l.length∧
   (l.mapM (fun (x:ResultVar)=>match x with | .tmp t=>(pure (a.tmps.getD t undef):Sem Value) | .cell s t=>do loadVar t (← asAddr (a.tmps.getD s undef)))).run P w=.ok rs w:=by
  intro l
  induction l with
  |nil=>
   intro ts c vs h h' _
   simp[Yw]at h; subst h
   simp[Qe]at h'
   obtain ⟨_,rfl⟩:=h'
   exact ⟨[],by simp[JE],rfl,by simp⟩
  |cons x l ih=>
   intro ts c vs h h' hc
   have step:∀ rv ts',ts=rv::ts'→Yw P l=some ts'→((∃ t,x=.tmp t∧rv=.tmp t)∨(∃ s t ag n,x=.cell s t∧rv=.cell ag n s∧Jav P t=some ag∧JcD P t=some n))→∃ rs,JE m.own m.imm vs rs∧rs.length=(x::l).length∧
     ((x::l).mapM (fun (x:ResultVar)=>match x with | .tmp t=>(pure (a.tmps.getD t undef):Sem Value) | .cell s t=>do loadVar t (← asAddr (a.tmps.getD s undef)))).run P w=.ok rs w:=by
    intro rv ts' hts hl hx
    subst hts
    simp only[Qe]at h'
    split at h'
    ·rename_i c1 v1 c2 vs2 h1 h2
     simp only[Ga,Gb]at h'
     obtain ⟨rfl,rfl⟩:=h'
     obtain ⟨r,hr1,hr2⟩:=runOne hx hp h1 hc.1
     obtain ⟨rs,hrs,hlen,hrun⟩:=ih ts' c2 vs2 hl h2 hc.2
     refine ⟨r::rs,by simp only[JE]; exact ⟨r,rs,rfl,hr1,hrs⟩,by simp[hlen],?_⟩
     simp only[List.mapM_cons,Sem.run_bind]
     erw [hr2]
     simp only[Result.andThen_ok]
     erw [hrun]
     simp only[Result.andThen_ok,Sem.run_pure]
    ·cases h'
   cases x with
   |tmp t=>
    simp only[Yw]at h
    split at h
    ·rename_i ts' h1
     cases h
     exact step _ ts' rfl h1 (.inl ⟨t,rfl,rfl⟩)
    ·cases h
   |cell s t=>
    simp only[Yw]at h
    split at h
    ·rename_i ag n ts' h1 h2 h3
     cases h
     exact step _ ts' rfl h3 (.inr ⟨s,t,ag,n,rfl,rfl,h1,h2⟩)
    ·cases h
 unfold resK at hk
 cases hra:Qe T H ts with
 |none=>simp[hra]at hk
 |some p=>
  obtain ⟨c,vs⟩:=p
  rw[hra]at hk
  have hc:c.holds:=by
   cases vs with
   |nil=>exact hk.1
   |cons v vs=>cases vs with
    |nil=>exact hk.1
    |cons _ _=>exact hk.1
  obtain ⟨rs,hrs,hlen,hrun⟩:=key fn.results.toList ts c vs hr hra hc
  have hl:=Ju hrs
  have hfin:(results fn a.tmps).run P w=.ok (if h:rs.toArray.size=1 then rs.toArray[0] else .tuple rs.toArray) w:=by
   have e:fn.results=fn.results.toList.toArray:=by simp
   unfold results
   rw[e,List.mapM_toArray]
   simp only[Sem.run_bind,Sem.run_map]
   erw [hrun]
   simp only[Result.andThen_ok,Sem.run_pure]
  rcases vs with _ | ⟨v,_ | ⟨v',vs⟩⟩
  ·refine ⟨_,.tup [],hfin,?_,hk.2⟩
   obtain rfl:rs=[]:=Gn (by simpa using hl.symm)
   simp[rel,JE]
  ·refine ⟨_,v,hfin,?_,hk.2⟩
   simp only[JE]at hrs
   obtain ⟨r,rs',rfl,hr1,rfl⟩:=hrs
   simpa using hr1
  ·refine ⟨_,.tup (v::v'::vs),hfin,?_,hk.2⟩
   rw[dif_neg (by simp at hl ⊢; omega)]
   simp only[rel]
   exact ⟨_,rfl,by simpa using hrs⟩
theorem Sim.putDef {D:Nat}{ob x:Obj}(hs:Sim E m H w) (hD:w.heap[D]? = some x) (hx:∀ c e f,x≠.cells c e f) (hn:¬ owned m H D):Sim E m H (w.putObj D ob):=by
 have hother:∀ B,B≠D→(w.putObj D ob).heap[B]? = w.heap[B]?:=fun B hB=>World.putObj_heap_other hB
 have hng:¬ D < gN:=fun h=>by
  obtain ⟨c,e,q,h1⟩:=hs.gl.1.cells h hD
  exact hx c e q h1
 refine ⟨hs.len,fun k o x1 hk hx1=>?_,fun B i v hv=>?_,hs.one,hs.sep,hs.ro,fun k s b hk=>?_,hs.extsep,fun B hB=>by rw[World.putObj_size]; exact hs.extlt B hB,hs.gl.1.mono fun B hB=>hother B fun e=>hng (e▸hB),hs.gl.2⟩
 ·exact Kh (Kg.refl _) (J5.refl _) (fun ha=>hother _ fun e=>hn (.inr ⟨k,o,x1,hk,ha,hx1,e⟩)) (hs.obj k o x1 hk hx1)
 ·have h1:=hs.imm B i v hv
  by_cases hB:B=D
  ·subst hB
   simp only[World.cell?,hD]at h1
   cases x <;> simp at h1
   exact absurd rfl (hx _ _ _)
  ·exact (cell?_congr (hother B hB)).trans h1
 ·refine E.stable _ _ _ _ _ _ _ (hs.ext k s b hk) (fun B hB=>hother B fun e=>hB.elim (fun hB=>hn (.inl (e▸hB))) (fun hB=>hng (e▸hB))) (by rw[World.putObj_size]; exact Gh _) (J5.refl _) (fun B i v h=>.inl h) (fun B i v hv=>?_) hs.one
  have h1:=hs.imm B i v hv
  by_cases hB:B=D
  ·subst hB
   simp only[World.cell?,hD]at h1
   cases x <;> simp at h1
   exact absurd rfl (hx _ _ _)
  ·exact (cell?_congr (hother B hB)).trans h1
theorem callsC_of {f:Nat}{F:IFunc}{args:List CV}{R:CV→List CObj→Prop}(hF:Je P f=some F) (h:∀ n,Ok P E H.length ⟨n,false⟩ (retQ F.results R) [.code F.body] (args++Gr (F.ntmps-args.length) .un) H):CallsC P E f args H R:=by
 intro m w vs hs hvs
 unfold Je at hF
 split at hF
 ·rename_i fn hfn
  split at hF
  ·rename_i c hb
   split at hF
   ·rename_i ic ts hic hts
    cases hF
    have hlen:=Ju hvs
    have hT:JE m.own m.imm (args++Gr (fn.ntmps-args.length) .un) (vs++G8 (fn.ntmps-vs.size) undef).toList:=by
     simp only[Array.toList_append,Array.toList_replicate]
     refine Qf hvs ?_
     rw[QY]
     refine ⟨by simp at hlen ⊢; omega,fun i c v hc hv=>?_⟩
     have:c=.un:=by have:=GQ hc; exact (GR.1 this).2
     subst this; simp[rel]
    refine callsIn_of_wp_marks hfn hb trivial (fun b k cs hro _ _=>?_)
    have hkr:XC P [.code ic] [.code c]:=by simp only[XC]; exact ⟨c,[],rfl,hic,rfl⟩
    obtain ⟨e,a',w',m',T',H',hext,hp',hd',hq,harr⟩:=h w.heap.size m w { tmps:=vs++G8 (fn.ntmps-vs.size) undef,defers:=[] } b cs [.code c] k ⟨hs,hT,Gh _⟩ (JcZ.nil _ _ (fun _=>hro) _ _ _ (Gh _)) hkr
    have fin:resK (Qe T' H' ts) R H'→LeavesInM (WF none) 0 P fn a'.tmps (fun e w''=>∃ r m' v H',e=.returned r∧Ext H.length m H w m' H' w''∧Sim E m' H' w''∧rel m'.own m'.imm v r∧R v H') a'.defers .returning w':=by
     intro hR
     obtain ⟨_,_,Ds,hds,hnd,hD⟩:=hd'
     rw[hds]
     have key:∀ (Ds:List Nat) (w1:World),Ds.Nodup→(∀ D∈Ds,w.heap.size≤D∧w1.heap[D]? = some (.deferred (some []))∧¬ owned m' H' D)→Ext H.length m H w m' H' w1→Sim E m' H' w1→
       LeavesInM (WF none) 0 P fn a'.tmps (fun e w''=>∃ r m' v H',e=.returned r∧Ext H.length m H w m' H' w''∧Sim E m' H' w''∧rel m'.own m'.imm v r∧R v H') (Ds.map fun D=>{ target:=.collected D,args:=#[] }) .returning w1:=by
      intro Ds
      induction Ds with
      |nil=>
       intro w1 _ _ he hs1
       obtain ⟨v,cv,hrun,hv,hRv⟩:=run_results (P:=P) hts ⟨hs1,hp'.tmps,hp'.long⟩ hR
       exact ⟨v,hrun,v,m',cv,H',rfl,he,hs1,hv,hRv⟩
      |cons D Ds ih=>
       intro w1 hn hD he hs1
       obtain ⟨hD1,hD2,hD3⟩:=hD D (by simp)
       refine ⟨by simp,.inl ⟨D,w1.putObj D (.deferred none),rfl,run_takeDeferred hD2,?_⟩⟩
       have hnd:=(List.nodup_cons.1 hn)
       refine ih _ hnd.2 (fun D' hD'=>?_) ?_ (hs1.putDef hD2 (by intro c e f h; cases h) hD3)
       ·obtain ⟨a1,a2,a3⟩:=hD D' (by simp[hD'])
        exact ⟨a1,(World.putObj_heap_other (by rintro rfl; exact hnd.1 hD')).trans a2,a3⟩
       ·exact { he with size:=by rw[World.putObj_size]; exact he.size,frame:=fun B hB ho=>(World.putObj_heap_other (by omega)).trans (he.frame B hB ho),same:=he.same }
     exact key Ds w' hnd hD hext hp'.sim
    cases e with
    |normal=>exact ⟨.normal,a',w',fin hq,harr⟩
    |ret=>exact ⟨.ret,a',w',fin hq,harr⟩
    |exit id=>exact hq.elim
    |goto l=>exact hq.elim
    |panic ch=>exact hq.elim
    |outgrown=>exact hq.elim
   ·cases hF
  ·cases hF
 ·cases hF
end
end
section
theorem Yg {id:Nat}:∀ (k k':List KItem),Xb id k=some k'→XR k'≤XR k
 |[],_,h=>by simp[Xb]at h
 |.blk id'::k,k',h=>by
  simp only[Xb]at h
  split at h
  ·cases h; simp[XR,KItem.size]
  ·have:=Yg k k' h; simp[XR,KItem.size]; omega
 |.code _::k,k',h=>by
  simp only[Xb]at h
  have:=Yg k k' h; simp only[XR,KItem.size]; omega
 |.ops _::k,k',h=>by
  simp only[Xb]at h
  have:=Yg k k' h; simp only[XR,KItem.size]; omega
section
variable (P:Program) (E:Env) (n0:Nat) (N:Fr) (Q:Exit→List CV→List CObj→Prop)
def Kr (k:List KItem) (T:List CV) (H:List CObj):Prop:=
 match k with
 |[]=>Q .normal T H
 |.blk _::k=>Kr k T H
 |.ops []::k=>Kr k T H
 |.ops (⟨d,op,none⟩::l)::k=>match exec op T H with
  |some (c,v,H')=>c.holds∧Kr (.ops l::k) (put T d v) H'
  |none=>Ok P E n0 N Q (.ops (⟨d,op,none⟩::l)::k) T H
 |.ops (⟨d,op,some (s,want)⟩::l)::k=>match T.getD s .un with
  |.bool t=>(t=want→match exec op T H with
    |some (c,v,H')=>c.holds∧Kr (.ops l::k) (put T d v) H'
    |none=>Ok P E n0 N Q (.ops (⟨d,op,some (s,want)⟩::l)::k) T H)∧(t=(!want)→Kr (.ops l::k) (put T d (.tup [])) H)
  |.tup []=>Kr (.ops l::k) (put T d (.tup [])) H
  |_=>False
 |.code .skip::k=>Kr k T H
 |.code (.seq a b)::k=>Kr (.code a :: .code b::k) T H
 |.code (.block id a)::k=>Kr (.code a :: .blk id::k) T H
 |.code (.cond i a b)::k=>match JQ T i with
  |.bool t=>(t=true→Kr (.code a::k) T H)∧(t=false→Kr (.code b::k) T H)
  |_=>False
 |.code .ret::_=>Q .ret T H
 |.code (.exit id)::k=>match _h:Xb id k with
  |some k'=>Kr k' T H
  |none=>Q (.exit id) T H
 |.code (.reg l)::k=>Kr (.ops l::k) T H
 |.code (.dreg l es)::k=>Ok P E n0 N Q (.code (.dreg l es)::k) T H
 |.code (.loop a)::k=>Ok P E n0 N Q (.code (.loop a)::k) T H
 |.code (.rfunc f ps a b)::k=>Ok P E n0 N Q (.code (.rfunc f ps a b)::k) T H
 |.code .bad::_=>False
termination_by XR k
decreasing_by
 all_goals simp only[XR,KItem.size,ICode.size,List.length_cons]
 all_goals first
  |omega
  |(have:=Yg _ _ ‹_›; omega)
def vrun0 (k:List KItem) (T:List CV) (H:List CObj):Prop:=Kr P E n0 N Q k T H
def vres (r:Option (Cond×CV×List CObj)) (d:Option Nat) (op:IOp) (g:Option (Nat×Bool)) (l:List IOper) (k:List KItem) (T:List CV) (H:List CObj):Prop:=
 match r with
 |some (c,v,H')=>c.holds∧Kr P E n0 N Q (.ops l::k) (put T d v) H'
 |none=>Ok P E n0 N Q (.ops (⟨d,op,g⟩::l)::k) T H
def JfY (v:CV) (p q:Prop):Prop:=
 match v with
 |.bool t=>(t=true→p)∧(t=false→q)
 |_=>False
def Xw (v:CV) (want:Bool) (p q:Prop):Prop:=
 match v with
 |.bool t=>(t=want→p)∧(t=(!want)→q)
 |.tup []=>q
 |_=>False
def Jce (r:Option (List KItem)) (id:Nat) (T:List CV) (H:List CObj):Prop:=
 match r with
 |some k'=>Kr P E n0 N Q k' T H
 |none=>Q (.exit id) T H
end
section
variable {P:Program}{E:Env}{n0:Nat}{N:Fr}{Q Q':Exit→List CV→List CObj→Prop}{b:Frame}{rest:List Item}{cs:List Frame}{m m':Bk}{H H':List CObj}{w w':World}{T T':List CV}{k:List KItem}
theorem v_nil:Kr P E n0 N Q [] T H=Q .normal T H:=by rw[Kr]
theorem v_blk {id:Nat}:Kr P E n0 N Q (.blk id::k) T H=Kr P E n0 N Q k T H:=by rw[Kr]
theorem v_ops_nil:Kr P E n0 N Q (.ops []::k) T H=Kr P E n0 N Q k T H:=by rw[Kr]
theorem v_op {d:Option Nat}{op:IOp}{l:List IOper}:Kr P E n0 N Q (.ops (⟨d,op,none⟩::l)::k) T H=vres P E n0 N Q (exec op T H) d op none l k T H:=by rw[Kr]; rfl
theorem v_gop {d:Option Nat}{op:IOp}{l:List IOper}{s:Nat}{want:Bool}:Kr P E n0 N Q (.ops (⟨d,op,some (s,want)⟩::l)::k) T H=Xw (T.getD s .un) want (vres P E n0 N Q (exec op T H) d op (some (s,want)) l k T H) (Kr P E n0 N Q (.ops l::k) (put T d (.tup [])) H):=by
 rw[Kr]; rfl
theorem v_skip:Kr P E n0 N Q (.code .skip::k) T H=Kr P E n0 N Q k T H:=by rw[Kr]
theorem v_seq {x y:ICode}:Kr P E n0 N Q (.code (.seq x y)::k) T H=Kr P E n0 N Q (.code x :: .code y::k) T H:=by rw[Kr]
theorem v_block {id:Nat}{x:ICode}:Kr P E n0 N Q (.code (.block id x)::k) T H=Kr P E n0 N Q (.code x :: .blk id::k) T H:=by rw[Kr]
theorem v_cond {i:IArg}{x y:ICode}:Kr P E n0 N Q (.code (.cond i x y)::k) T H=JfY (JQ T i) (Kr P E n0 N Q (.code x::k) T H) (Kr P E n0 N Q (.code y::k) T H):=by rw[Kr]; rfl
theorem v_ret:Kr P E n0 N Q (.code .ret::k) T H=Q .ret T H:=by rw[Kr]
theorem v_exit {id:Nat}:Kr P E n0 N Q (.code (.exit id)::k) T H=Jce P E n0 N Q (Xb id k) id T H:=by
 rw[Kr]; unfold Jce; split <;> simp_all
theorem v_reg {l:List IOper}:Kr P E n0 N Q (.code (.reg l)::k) T H=Kr P E n0 N Q (.ops l::k) T H:=by rw[Kr]
theorem v_loop {a:ICode}:Kr P E n0 N Q (.code (.loop a)::k) T H=Ok P E n0 N Q (.code (.loop a)::k) T H:=by rw[Kr]
theorem v_dreg {l:List IOper}{es:List (List Nat)}:Kr P E n0 N Q (.code (.dreg l es)::k) T H=Ok P E n0 N Q (.code (.dreg l es)::k) T H:=by rw[Kr]
theorem v_rfunc {f:IArg}{ps:List Nat}{x y:ICode}:Kr P E n0 N Q (.code (.rfunc f ps x y)::k) T H=Ok P E n0 N Q (.code (.rfunc f ps x y)::k) T H:=by rw[Kr]
theorem vres_some {c:Cond}{v:CV}{d:Option Nat}{op:IOp}{g:Option (Nat×Bool)}{l:List IOper}:vres P E n0 N Q (some (c,v,H')) d op g l k T H=(c.holds∧Kr P E n0 N Q (.ops l::k) (put T d v) H'):=rfl
theorem vres_none {d:Option Nat}{op:IOp}{g:Option (Nat×Bool)}{l:List IOper}:vres P E n0 N Q none d op g l k T H=Ok P E n0 N Q (.ops (⟨d,op,g⟩::l)::k) T H:=rfl
theorem vcond_bool {t:Bool}{p q:Prop}:JfY (.bool t) p q=((t=true→p)∧(t=false→q)):=rfl
theorem vguard_bool {t want:Bool}{p q:Prop}:Xw (.bool t) want p q=((t=want→p)∧(t=(!want)→q)):=rfl
theorem vguard_skip {want:Bool}{p q:Prop}:Xw (.tup []) want p q=q:=rfl
theorem vguard_tt {p q:Prop}:Xw (.bool true) true p q=p:=by simp[Xw]
theorem vguard_ff {p q:Prop}:Xw (.bool false) false p q=p:=by simp[Xw]
theorem vguard_tf {p q:Prop}:Xw (.bool true) false p q=q:=by simp[Xw]
theorem vguard_ft {p q:Prop}:Xw (.bool false) true p q=q:=by simp[Xw]
theorem vcond_true {p q:Prop}:JfY (.bool true) p q=p:=by simp[JfY]
theorem vcond_false {p q:Prop}:JfY (.bool false) p q=q:=by simp[JfY]
theorem vexit_some {id:Nat}{k':List KItem}:Jce P E n0 N Q (some k') id T H=Kr P E n0 N Q k' T H:=rfl
theorem vexit_none {id:Nat}:Jce P E n0 N Q none id T H=Q (.exit id) T H:=rfl
theorem vrun0_eq:vrun0 P E n0 N Q k T H=Kr P E n0 N Q k T H:=rfl
theorem vrun_look {T':List CV}{H':List CObj}(hT:T=T') (hH:H=H'):Kr P E n0 N Q k T H=Kr P E n0 N Q k T' H':=by rw[hT,hH]
theorem ok_look {T':List CV}{H':List CObj}(hT:T=T') (hH:H=H'):Ok P E n0 N Q k T H=Ok P E n0 N Q k T' H':=by rw[hT,hH]
theorem vres_look {r r':Option (Cond×CV×List CObj)}{d:Option Nat}{op:IOp}{g:Option (Nat×Bool)}{l:List IOper}(h:r=r'):vres P E n0 N Q r d op g l k T H=vres P E n0 N Q r' d op g l k T H:=by rw[h]
theorem vcond_look {v v':CV}{p q:Prop}(h:v=v'):JfY v p q=JfY v' p q:=by rw[h]
theorem vguard_look {v v':CV}{want:Bool}{p q:Prop}(h:v=v'):Xw v want p q=Xw v' want p q:=by rw[h]
theorem vexit_look {r r':Option (List KItem)}{id:Nat}(h:r=r'):Jce P E n0 N Q r id T H=Jce P E n0 N Q r' id T H:=by rw[h]
attribute [congr] vrun_look ok_look vres_look vcond_look vguard_look vexit_look
theorem JeV {d:Option Nat}{op:IOp}{g:Option (Nat×Bool)}{l:List IOper}(ih:∀ T H,Kr P E n0 N Q (.ops l::k) T H→Ok P E n0 N Q (.ops l::k) T H) (hg:GOk T g) (h:vres P E n0 N Q (exec op T H) d op g l k T H):Ok P E n0 N Q (.ops (⟨d,op,g⟩::l)::k) T H:=by
 cases he:exec op T H with
 |none=>rw[he]at h; exact h
 |some r=>
  obtain ⟨c,v,H'⟩:=r
  rw[he]at h
  exact Jcr (io:=⟨d,op,g⟩) hg he h.1 (ih _ _ h.2)
theorem JK (k:List KItem):∀ (T:List CV) (H:List CObj),Kr P E n0 N Q k T H→Ok P E n0 N Q k T H:=by
 suffices hs:∀ n k,XR k=n→∀ (T:List CV) (H:List CObj),Kr P E n0 N Q k T H→Ok P E n0 N Q k T H from hs _ k rfl
 intro n
 induction n using GY with
 |_ n ih=>
  intro k hn T H h
  match k,hn,h with
  |[],_,h=>rw[v_nil]at h; exact ok_nil h
  |.blk id::k,hn,h=>rw[v_blk]at h; exact ok_blk (ih _ (by rw[← hn]; simp[XR,KItem.size]) k rfl _ _ h)
  |.ops []::k,hn,h=>rw[v_ops_nil]at h; exact Ym (ih _ (by rw[← hn]; simp[XR,KItem.size]) k rfl _ _ h)
  |.ops (⟨d,op,none⟩::l)::k,hn,h=>
   rw[v_op]at h
   exact JeV (fun T H=>ih _ (by rw[← hn]; simp[XR,KItem.size]) _ rfl T H) (.inl rfl) h
  |.ops (⟨d,op,some (s,want)⟩::l)::k,hn,h=>
   rw[v_gop]at h
   unfold Xw at h
   split at h
   ·rename_i t ht
    by_cases htw:t=want
    ·exact JeV (fun T H=>ih _ (by rw[← hn]; simp[XR,KItem.size]) _ rfl T H) (.inr ⟨s,want,rfl,by rw[ht,htw]⟩) (h.1 htw)
    ·have:t = !want:=by cases t <;> cases want <;> simp_all
     exact Jad rfl (.inl (by rw[ht,this])) (ih _ (by rw[← hn]; simp[XR,KItem.size]) _ rfl _ _ (h.2 this))
   ·rename_i ht
    exact Jad rfl (.inr ht) (ih _ (by rw[← hn]; simp[XR,KItem.size]) _ rfl _ _ h)
   ·exact h.elim
  |.code .skip::k,hn,h=>rw[v_skip]at h; exact ok_skip (ih _ (by rw[← hn]; simp[XR,KItem.size,ICode.size]) k rfl _ _ h)
  |.code (.seq x y)::k,hn,h=>rw[v_seq]at h; exact ok_seq (ih _ (by rw[← hn]; simp[XR,KItem.size,ICode.size]; omega) _ rfl _ _ h)
  |.code (.block id x)::k,hn,h=>rw[v_block]at h; exact ok_block (ih _ (by rw[← hn]; simp[XR,KItem.size,ICode.size]; omega) _ rfl _ _ h)
  |.code (.cond i x y)::k,hn,h=>
   rw[v_cond]at h
   unfold JfY at h
   split at h
   ·rename_i t ht
    refine ok_cond ht (ih _ ?_ _ rfl _ _ ?_)
    ·rw[← hn]; cases t <;> simp[XR,KItem.size,ICode.size] <;> omega
    ·cases t
     ·exact h.2 rfl
     ·exact h.1 rfl
   ·exact h.elim
  |.code .ret::k,hn,h=>rw[v_ret]at h; exact ok_ret h
  |.code (.exit id)::k,hn,h=>
   rw[v_exit]at h
   refine Jgh ?_
   unfold Jce at h
   cases hx:Xb id k with
   |none=>rw[hx]at h; exact h
   |some k'=>
    rw[hx]at h
    exact ih _ (by rw[← hn]; have:=Yg _ _ hx; simp[XR,KItem.size,ICode.size]; omega) _ rfl _ _ h
  |.code (.reg l)::k,hn,h=>rw[v_reg]at h; exact ok_reg (ih _ (by rw[← hn]; simp[XR,KItem.size,ICode.size]) _ rfl _ _ h)
  |.code (.dreg l es)::k,hn,h=>rw[v_dreg]at h; exact h
  |.code (.loop a)::k,hn,h=>rw[v_loop]at h; exact h
  |.code (.rfunc f ps x y)::k,hn,h=>rw[v_rfunc]at h; exact h
  |.code .bad::k,hn,h=>rw[Kr]at h; exact h.elim
theorem Ok.mono (h:Ok P E n0 N Q k T H) (hq:∀ e T H,Q e T H→Q' e T H):Ok P E n0 N Q' k T H:=by
 intro m w a b cs kr rest hp hd hk
 obtain ⟨e,a',w',m',T',H',h1,h2,h3,h4,h5⟩:=h m w a b cs kr rest hp hd hk
 exact ⟨e,a',w',m',T',H',h1,h2,h3,hq _ _ _ h4,h5⟩
def wk (c c':CV):Prop:=∀ own imm v,rel own imm c v→rel own imm c' v
def wks:List CV→List CV→Prop
 |[],[]=>True
 |c::cs,c'::cs'=>wk c c'∧wks cs cs'
 |_,_=>False
theorem Jby {own:List Own}{imm:Nat→Nat→Option Value}:∀ {T T':List CV}{vs:List Value},wks T T'→JE own imm T vs→JE own imm T' vs
 |[],[],_,_,h=>h
 |c::cs,c'::cs',vs,hw,h=>by
  simp only[JE]at h ⊢
  obtain ⟨r,rs,rfl,h1,h2⟩:=h
  exact ⟨r,rs,rfl,hw.1 _ _ _ h1,Jby hw.2 h2⟩
 |[],_::_,_,hw,_=>hw.elim
 |_::_,[],_,hw,_=>hw.elim
theorem wk.refl (c:CV):wk c c:=fun _ _ _ h=>h
theorem wk.un (c:CV):wk c .un:=fun _ _ _ _=>by simp[rel]
theorem wk.eq {c c':CV}(h:c=c'):wk c c':=h▸wk.refl c
theorem wk.rslc {z:Nat}{els:List (List CV)}{cap:Option Nat}:wk (.rslc z els cap) (.rslc z els none):=by
 intro own imm v h
 simp only[rel]at h ⊢
 rcases h with ⟨_,h1,h2⟩ | ⟨B,o,c,h1,h2,h3,h4⟩
 ·exact .inl ⟨.inl trivial,h1,h2⟩
 ·exact .inr ⟨B,o,c,h1,h2,by simp,h4⟩
theorem wk.nils {z:Nat}:wk .nils (.rslc z [] none):=by
 intro own imm v h
 simp only[rel]at h ⊢
 exact .inl ⟨.inl trivial,trivial,none,h⟩
theorem wks.refl:∀ (T:List CV),wks T T
 |[]=>trivial
 |c::cs=>⟨wk.refl c,wks.refl cs⟩
theorem JdP (hw:wks T T') (h:Ok P E n0 N Q k T' H):Ok P E n0 N Q k T H:=by
 intro m w a b cs kr rest hp hd hk
 exact h m w a b cs kr rest ⟨hp.sim,Jby hw hp.tmps,hp.long⟩ hd hk
def forget:List CV→List CV→Prop
 |[],[]=>True
 |a::T,b::T'=>(b=.un∨a=b)∧forget T T'
 |_,_=>False
theorem XB : ∀ {T T' : List CV}, forget T T' → wks T T'
  | [], [], _ => trivial
  | _ :: _, _ :: _, h => ⟨by rcases h.1 with h | h; · rw [h]; exact wk.un _
                             · exact wk.eq h, XB h.2⟩
  | [], _ :: _, h => h.elim
  | _ :: _, [], h => h.elim
def Jdt (P:Program) (E:Env) (n0:Nat) (N:Fr) (Q:Exit→List CV→List CObj→Prop) (k:List KItem) (I:List CV→List CObj→Prop) (e:Exit) (T:List CV) (H:List CObj):Prop:=
 match e with
 |.normal=>I T H
 |.exit id=>Jce P E n0 N Q (Xb id k) id T H
 |.ret=>Q .ret T H
 |_=>False
theorem JfX {I:List CV→List CObj→Prop}:Jdt P E n0 N Q k I .normal T H=I T H:=rfl
theorem vloopQ_exit {I:List CV→List CObj→Prop}{id:Nat}:Jdt P E n0 N Q k I (.exit id) T H=Jce P E n0 N Q (Xb id k) id T H:=rfl
theorem vloopQ_ret {I:List CV→List CObj→Prop}:Jdt P E n0 N Q k I .ret T H=Q .ret T H:=rfl
theorem JcC {I I':List CV→List CObj→Prop}(hI:∀ T H,I T H→I' T H) {e:Exit}(h:Jdt P E n0 N Q k I e T H):loopQ P E n0 N Q k I' e T H:=by
 cases e with
 |normal=>exact hI _ _ h
 |exit id=>
  simp only[Jdt,Jce]at h
  simp only[loopQ]
  split <;> rename_i hx <;> rw[hx]at h
  ·exact JK _ _ _ h
  ·exact h
 |ret=>exact h
 |goto _=>exact h.elim
 |panic _=>exact h.elim
 |outgrown=>exact h.elim
theorem Jz {x:ICode}{σ:Type}(I:σ→Prop) (inv:σ→List CV) (hp:σ→List CObj) (μ:σ→Nat) (s0:σ) (h0:I s0) (hT:forget T (inv s0)) (hH:H=hp s0)
  (hb:∀ s,I s→Kr P E n0 N (Jdt P E n0 N Q k fun T' H'=>∃ s',I s'∧μ s' < μ s∧H'=hp s'∧forget T' (inv s')) [.code x] (inv s) (hp s)):Ok P E n0 N Q (.code (.loop x)::k) T H:=by
 subst hH
 refine ok_loop (I:=fun s T H=>I s∧wks T (inv s)∧H=hp s) μ s0 ⟨h0,XB hT,rfl⟩ ?_
 rintro s T H ⟨hs,hw,rfl⟩
 refine JdP hw ((JK _ _ _ (hb s hs)).mono fun e T' H' hq=>JcC (fun T2 H2 h2=>?_) hq)
 obtain ⟨s',hs',hlt,rfl,hf⟩:=h2
 exact ⟨s',⟨hs',XB hf,rfl⟩,hlt⟩
theorem gok {s:Nat}{want:Bool}(h:T.getD s .un=.bool want):GOk T (some (s,want)):=.inr ⟨s,want,rfl,h⟩
theorem Xc {d:Option Nat}{g:Option (Nat×Bool)}{f:Nat}{as:List IArg}{l:List IOper}{R:CV→List CObj→Prop}(hg:GOk T g) (hcall:CallsC P E f (as.map (JQ T)) H R) (h:∀ v H',R v H'→Kr P E n0 N Q (.ops l::k) (put T d v) H'):Ok P E n0 N Q (.ops (⟨d,.call f as,g⟩::l)::k) T H:=
 Ja8 hg hcall fun v H' hR=>JK _ _ _ (h v H' hR)
def Pure (P:Program) (E:Env) (f:Nat) (args:List CV) (H:List CObj) (v:CV):Prop:=CallsC P E f args H fun v' H'=>v'=v∧H'=H
theorem vr_pure {d:Option Nat}{f:Nat}{as:List IArg}{l:List IOper}{v:CV}(hcall:Pure P E f (as.map (JQ T)) H v) (h:Kr P E n0 N Q (.ops l::k) (put T d v) H):Ok P E n0 N Q (.ops (⟨d,.call f as,none⟩::l)::k) T H:=
 Xc (.inl rfl) hcall fun v' H' ⟨hv,hH⟩=>by rw[hv,hH]; exact h
theorem vr_pureg {d:Option Nat}{g:Option (Nat×Bool)}{f:Nat}{as:List IArg}{l:List IOper}{v:CV}(hg:GOk T g) (hcall:Pure P E f (as.map (JQ T)) H v) (h:Kr P E n0 N Q (.ops l::k) (put T d v) H):Ok P E n0 N Q (.ops (⟨d,.call f as,g⟩::l)::k) T H:=
 Xc hg hcall fun v' H' ⟨hv,hH⟩=>by rw[hv,hH]; exact h
theorem CallsC.mono {f:Nat}{args:List CV}{R R':CV→List CObj→Prop}(h:CallsC P E f args H R) (hR:∀ v H',R v H'→R' v H'):CallsC P E f args H R':=by
 intro m w vs hs hv
 refine (h m w vs hs hv).mono ?_
 rintro e w' ⟨r,m',v,H',h1,h2,h3,h4,h5⟩
 exact ⟨r,m',v,H',h1,h2,h3,h4,hR _ _ h5⟩
theorem KI {f:Nat}{F:IFunc}{args:List CV}{R:CV→List CObj→Prop}(hF:Je P f=some F) (h:∀ n,vrun0 P E H.length ⟨n,false⟩ (retQ F.results R) [.code F.body] (args++Gr (F.ntmps-args.length) .un) H):CallsC P E f args H R:=
 callsC_of hF fun N=>JK _ _ _ (h N)
end
end
end Go.Cm
end
end
