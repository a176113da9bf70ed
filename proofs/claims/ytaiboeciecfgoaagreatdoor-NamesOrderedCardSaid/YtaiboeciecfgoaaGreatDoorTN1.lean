/-
  A part of the proof. Conditions: none.
-/
import Derived.Test.YtaiboeciecfgoaaGreatDoorRows
import Derived.ProofKit
import Derived.LaidMore
import Derived.Lib.LaidTab
import Derived.Stop.Joined
import Derived.SevenTiedAt
import Derived.Test.YtaiboeciecfgoaaGreatDoorTP50
set_option linter.unusedSimpArgs false
set_option linter.unusedVariables false
open Go.Proofs.Tryz renaming prog→Ga
open List renaming getD_eq_getElem?_getD→Gb,getElem?_eq_getElem→Gg,take_of_length_le→Gh,length_cons→Gc,length_eraseIdx_of_lt→Gq,length_take→Gj,mem_cons→Gl,map_cons→Gm,map_nil→Gn,length_drop→Gr,drop_eq_nil_of_le→Gs,getElem_mem→Gt,cons_append→Gu,nil_append→Gv,length_nil→Gw,append_nil→Gx
open Option.some renaming inj→Gi
open Int renaming toNat_natCast→Gp
open Bool renaming not_false→Gd,not_true→Gf
noncomputable section
section
open Go.Proofs
set_option maxRecDepth 100000
namespace Go.Cm
section
variable {P:Program}
theorem fits_struct5 {d:Nat}{t:TypeId}{f0 f1 f2 f3 f4:Field}{l:List CV}(ht:P.underlying t=some (.struct #[f0,f1,f2,f3,f4])) (h:fits P (d+1) t l):∃ a b c e f,l=a++(b++(c++(e++f)))∧fits P d f0.type a∧fits P d f1.type b∧fits P d f2.type c∧fits P d f3.type e∧fits P d f4.type f:=by
 simp only[fits,ht]at h
 obtain ⟨ls,rfl,hl,hf⟩:=h
 match ls,hl with
 |[a,b,c,e,f],_=>exact ⟨a,b,c,e,f,by simp,hf 0 f0 a rfl rfl,hf 1 f1 b rfl rfl,hf 2 f2 c rfl rfl,hf 3 f3 e rfl rfl,hf 4 f4 f rfl rfl⟩
end
theorem ints_of {d:Nat}{els:List (List CV)}(h:∀ x∈els,fits Ga d 3 x):∃ l:List Int,els=iz l∧∀ i∈l,InR .i64 i:=by
 induction els with
 |nil=>exact ⟨[],rfl,by simp⟩
 |cons e els ih=>
  obtain ⟨x,rfl,hx⟩:=fits_int Tryz.underlying3 (h e (by simp))
  obtain ⟨l,rfl,hl⟩:=ih fun y hy=>h y (by simp[hy])
  exact ⟨x::l,rfl,fun i hi=>by
   rcases Gl.1 hi with rfl | hi
   ·exact hx
   ·exact hl i hi⟩
theorem node_of {d:Nat}{l:List CV}(h:fits Ga (d+3) 49 l):∃ x:Nd,l=x.cv∧x.Ty:=by
 obtain ⟨a,b,c,e,f,rfl,h1,h2,h3,h4,h5⟩:=fits_struct5 Tryz.underlying49 h
 obtain ⟨k,rfl,hk⟩:=fits_int Tryz.underlying5 h1
 obtain ⟨s,rfl,_⟩:=fits_str Tryz.underlying9 h2
 obtain ⟨n,rfl,hn⟩:=fits_int Tryz.underlying3 h3
 obtain ⟨els,rfl,_,hels⟩:=Jck Tryz.underlying23 h4
 obtain ⟨p,rfl,hp⟩:=fits_int Tryz.underlying3 h5
 obtain ⟨ks,rfl,hks⟩:=ints_of hels
 have hc:Ga.cellsOf 3=1:=by kernel_rfl
 have hk0:0≤k∧k≤255:=⟨hk.1,hk.2⟩
 refine ⟨⟨k.toNat,s.data.toList,n,ks,p⟩,?_,⟨by show k.toNat < 256; omega,hn,hks,hp⟩⟩
 simp only[Nd.cv,Gu,Gv,hc]
 rw[Int.toNat_of_nonneg hk0.1]
theorem nodes_of {d:Nat}{els:List (List CV)}(h:∀ x∈els,fits Ga (d+3) 49 x):∃ l:List Nd,els=ndz l∧∀ x∈l,x.Ty:=by
 induction els with
 |nil=>exact ⟨[],rfl,by simp⟩
 |cons e els ih=>
  obtain ⟨x,rfl,hx⟩:=node_of (h e (by simp))
  obtain ⟨l,rfl,hl⟩:=ih fun y hy=>h y (by simp[hy])
  exact ⟨x::l,rfl,fun i hi=>by
   rcases Gl.1 hi with rfl | hi
   ·exact hx
   ·exact hl i hi⟩
theorem tree_of {d:Nat}{c:CV}(h:Ja5 Ga (d+5) 25 c):∃ t:Tr,c=t.cv∧t.Ty:=by
 simp only[Ja5,Tryz.underlying25]at h
 obtain ⟨l,rfl,h⟩:=h
 obtain ⟨a,b,rfl,h1,h2⟩:=fits_struct2 Tryz.underlying25 h
 obtain ⟨els,rfl,_,hels⟩:=Jck Tryz.underlying22 h1
 obtain ⟨its,rfl,_,hits⟩:=Jck Tryz.underlying23 h2
 obtain ⟨ns,rfl,hns⟩:=nodes_of hels
 obtain ⟨is,rfl,his⟩:=ints_of hits
 have hc:Ga.cellsOf 3=1:=by kernel_rfl
 have hc5:Ga.cellsOf 49=5:=by kernel_rfl
 refine ⟨⟨ns,is⟩,?_,⟨hns,his⟩⟩
 simp only[Tr.cv,Tr.row,Gu,Gv,hc,hc5]
end Go.Cm
namespace Go.Proofs.YtaiboeciecfgoaaGreatDoor
open Go.Cm
theorem var_cells {P:Program}{w:World}{n:String}{g:Nat}{cs:Array Value}(hg:P.globalNamed n=some g) (h:w.var? P n=some cs):∃ e q,w.heap[g]? = some (.cells cs e q):=by
 simp only[World.var?,hg,Option.bind_some]at h
 split at h
 ·rename_i cs' e q hh
  simp only[Option.some.injEq]at h
  subst h
  exact ⟨e,q,hh⟩
 ·cases h
def Reads (P:Program) (w:World) (n:String) (d:DataW Unit):Prop:=
 ∃ g t cs fuel p,P.globalNamed n=some g∧(P.globals[g]?).map (·.type)=some t∧w.var? P n=some cs∧DataW.trod (fun _=>()) P w 0 (fun _=>true) false fuel t cs.toList=some (d,p)
theorem JfO {P:Program}{w:World}:∀ {l:List (String×DataW Unit)}{ps:List MemPlace},DataW.LaidVars P w l ps→∀ n d,(n,d)∈l→Reads P w n d
 |[],_,_,_,_,hm=>by cases hm
 |(n',d')::r,ps,h,n,d,hm=>by
  obtain ⟨g,t,cs,fuel,p,q,h1,h2,h3,h4,h5,_⟩:=h
  rcases Gl.1 hm with e | e
  ·cases e
   exact ⟨g,t,cs,fuel,p,h1,h2,h3,h4⟩
  ·exact JfO h5 n d e
theorem trod_iface {P:Program}{w:World}{t:TypeId}{ms:Array (String×TypeId)}{fuel:Nat}{l:List Value}{s:String}{x:DataW Unit}{p:List MemPlace}(hu:P.underlying t=some (.interface ms)) (h:DataW.trod (fun _=>()) P w 0 (fun _=>true) false fuel t l=some (.iface s x,p)):∃ te pe,l=[.iface te pe]:=by
 cases fuel with
 |zero=>simp[DataW.trod]at h
 |succ fuel=>
  unfold DataW.trod at h
  rw[hu]at h
  split at h
  all_goals first | exact ⟨_,_,rfl⟩ | (rename_i hx _; cases hx; done) | (rename_i hx; cases hx; done) | (simp at h; done) | skip
theorem gl_of {W : World} {rt rs : List (String × DataW Unit)} {x1 x2 : DataW Unit} {s1 s2 : String} (hsh : W.ShapedOpen Ga) {laid : List (String × DataW Unit)} (hL : laidMetH Ga laid W) (hh : (laid.filter fun x => x.2.handleName?.isSome) = [])
    (h1 : ("internal/strconv.uint64pow10", Lib.tabData .u64 Lib.pow10Tab) ∈ laid) (h2 : ("strconv.ErrRange", .iface s1 x1) ∈ laid) (h3 : ("strconv.ErrSyntax", .iface s2 x2) ∈ laid) : GLw W := by
  unfold laidMetH at hL
  rw [hh] at hL
  simp only at hL
  obtain ⟨ps, hv, _⟩ := hL
  have hcell : ∀ B, B < 6 → ∃ c e q, W.heap[B]? = some (.cells c e q) := by
    intro B hB
    obtain ⟨zero, t, hz⟩ : ∃ zero t, ((begin Ga (fun _ _ => 0) default).world.heap[B]?).bind Obj.row? = some (zero, t) := by
      have : ((List.range 6).all fun B => (((begin Ga (fun _ _ => 0) default).world.heap[B]?).bind Obj.row?).isSome) = true := by kernel_rfl
      rw [List.all_eq_true] at this
      have h := this B (by simpa using hB)
      obtain ⟨p, hp⟩ := Option.isSome_iff_exists.1 h
      exact ⟨p.1, p.2, hp⟩
    obtain ⟨cs, hc, _⟩ := hsh.1 B zero t (by have : Ga.globals.size = 6 := by kernel_rfl
                                             omega) hz
    exact ⟨cs, _, _, hc⟩
  have herr : ∀ {n : String} {s : String} {x : DataW Unit} {g : Nat}, Ga.globalNamed n = some g → g < gN → (Ga.globals[g]?).map (·.type) = some 163 → (n, DataW.iface s x) ∈ laid → ∃ te pe e q, (if g < gN then W.heap[g]? else none) = some (.cells #[.iface te pe] e q) := by
    intro n s x g hg hlt hty hm
    obtain ⟨g', t', cs, fuel, p, hg', ht', hvar, hd⟩ := JfO hv _ _ hm
    obtain rfl := Gi (hg.symm.trans hg')
    obtain rfl := Gi (hty.symm.trans ht')
    obtain ⟨te, pe, hl⟩ := trod_iface Tryz.underlying163 hd
    obtain ⟨e, q, hb⟩ := var_cells hg hvar
    have hcs : cs = #[.iface te pe] := by cases cs; simp_all
    subst hcs
    exact ⟨te, pe, e, q, by rw [if_pos hlt]; exact hb⟩
  refine ⟨fun B hB => ?_, ?_, fun B hB => ?_⟩
  · obtain ⟨c, e, q, h⟩ := hcell B hB
    exact ⟨c, e, q, by simp only [if_pos hB]; exact h⟩
  · obtain ⟨g', t', cs, fuel, p, hg', ht', hvar, hd⟩ := JfO hv _ _ h1
    have hg : Ga.globalNamed "internal/strconv.uint64pow10" = some gTab := by kernel_rfl
    obtain rfl := Gi (hg.symm.trans hg')
    obtain ⟨e, q, hb⟩ := var_cells hg hvar
    obtain ⟨n, el, hu, hel, hce, hct⟩ : ∃ n el, Ga.underlying t' = some (.array n el) ∧ Ga.underlying el = some (.int .u64) ∧ Ga.cellsOf el = 1 ∧ Ga.cellsOf t' = n := by
      have hty : (Ga.globals[gTab]?).map (·.type) = some 234 := by kernel_rfl
      obtain rfl := Gi (hty.symm.trans ht')
      exact ⟨_, _, Tryz.underlying234, Tryz.underlying153, by kernel_rfl, by kernel_rfl⟩
    have hcs := Lib.cells_of_tab hu hel hce hct hd
    refine ⟨e, q, ?_⟩
    show (if gTab < gN then W.heap[gTab]? else none) = _
    rw [if_pos (by decide), hb, ← hcs]
  · simp only [gErr, Gl, List.not_mem_nil, or_false] at hB
    rcases hB with rfl | rfl
    · exact herr (n := "strconv.ErrSyntax") (by kernel_rfl) (by decide) (by kernel_rfl) h3
    · exact herr (n := "strconv.ErrRange") (by kernel_rfl) (by decide) (by kernel_rfl) h2
section
variable {H:Type}{enc:TypeId×Value→H}
theorem Jf2 {C:Checked}{os:Os}{f:FuncId}{fn:Func}{s:ChangeSpec}{apart fresh handsOn again:Bool}{X:World→Prop}
  (hX:∀ (w w':World),w.heap=w'.heap→X w→X w')
  (own:ownKnob C.prog.godebug=none) (started:os.Started) (noInit:C.prog.inits.idxOf? f=none) (hfn:C.prog.funcs[f]? = some fn)
  (witness:∃ (w:World) (tape:Tape) (i:Input),w.os=os∧(w.forCall tape i).Shaped C.prog∧i.vars=[]∧Input.okWide C.prog (w.forCall tape i) .any w.heap.size f i∧
   ((s.pre enc C.prog fn [] apart (w.forCall tape i).memory i.args∧X (w.forCall tape i).memory)∧sizedMet enc C.prog fn (OpenSpec.ofChange s) apart (w.forCall tape i).memory i.args)∧({}:Assume).holds C.prog (lone (Frame.enter C.prog f i.args .normal) [] (w.forCall tape i)))
  (contract:∀ (W:World) (base:Nat) (args:Array Value) (ds gs:List (DataW H)) (before:List MemPlace),
   (∀ (j:Nat) t v,fn.params[j]? = some t→args[j]? = some v→Value.okWide C.prog W .any base t v)→
   DataW.Whole enc C.prog fn.params.toList s.vars apart W args.toList ds gs before→X W→W.ShapedOpen C.prog→
   Calls C.prog f args W fun e W'=>∃ v,e=.returned v∧s.post enc C.prog fn apart fresh handsOn again W args v W') :
  ReturnsInHanded {} C os f .any (fun w args=>(s.pre enc C.prog fn [] apart w args∧X w)∧sizedMet enc C.prog fn (OpenSpec.ofChange s) apart w args) (s.post enc C.prog fn apart fresh handsOn again):=by
 refine returnsInHanded_of_calls own started noInit witness fun w tape i _ hsh _ hok hpre _=>?_
 obtain ⟨_,_,_,fn',hfn',_,_,_,_,hval⟩:=hok
 obtain rfl:=Gi (hfn'.symm.trans hfn)
 obtain ⟨⟨⟨ds,gs,before,hw,_⟩,hx⟩,_⟩:=hpre
 have hw':=DataW.Whole.of_heap (w':=w.forCall tape i) (by rfl) hw
 have hx':X (w.forCall tape i):=hX _ _ (by rfl) hx
 refine (contract (w.forCall tape i) w.heap.size i.args ds gs before hval hw' hx' hsh).mono fun e W' ⟨v,he,hp⟩=>?_
 subst he
 exact ChangeSpec.post_blind hp
end
theorem ownK:ownKnob Ga.godebug=none:=by kernel_rfl
theorem ty_laid:laidOutB Ga=true:=by kernel_rfl
theorem ty_maps:mapsRowed Ga=true:=by kernel_rfl
theorem ty_full:((List.range Ga.types.size).all fun t=>match Ga.underlying t with | some (.slice e)=>decide (0 < Ga.cellsOf e) | _=>true)=true:=by kernel_rfl
end Go.Proofs.YtaiboeciecfgoaaGreatDoor
end
section
set_option maxRecDepth 100000
set_option maxHeartbeats 4000000
open Go.Proofs
namespace Go.Cm
section
theorem refMeet (a b:List Int) (ha:a.length≤100000) (hb:b.length≤100000):Fn Ga 35 [.rslc 1 (iz a) none,.rslc 1 (iz b) none] (.bool (a.any fun y=>b.contains y)):=by
 have hil:(iz a).length=a.length:=Jf
 refine Ja c35_ok rfl rfl fun N=>?_
 simp -implicitDefEqProofs only[c35,go_sem]
 generalize hq:(fun y=>b.contains y)=q
 refine JC (I:=fun i:Nat=>i≤a.length∧a.any q=(a.drop i).any q) (inv:=fun i=>gp [(0,.rslc 1 (iz a) none),(0,.rslc 1 (iz b) none),(3,.int .i64 (i:Int))] 12) (hp:=fun _=>[]) (μ:=fun i=>a.length-i) 0 ⟨by omega,rfl⟩ ?_ rfl ?_
 ·simp[forget,gp]
 ·rintro i ⟨hi,hinv⟩
  by_cases hlt:i < a.length
  ·have d1:((i:Int) < (a.length:Int))=True:=Jn
   have hgi:=JQ hlt
   rw[List.drop_eq_getElem_cons hlt,List.any_cons,show a[i]=a.getD i 0 by rw[Gb,Gg hlt]; rfl]at hinv
   generalize a.getD i 0=y at hinv hgi
   have hH:=refHas3 b y hb
   rw[show b.contains y=q y by rw[← hq]]at hH
   simp -implicitDefEqProofs only[go_sem,hil,d1,hgi]
   refine ⟨by omega,?_⟩
   refine J7 hH ?_
   cases he:q y with
   |true=>
    rw[he,Bool.true_or]at hinv
    simp -implicitDefEqProofs only[go_sem,hinv]
   |false=>
    rw[he,Bool.false_or]at hinv
    simp -implicitDefEqProofs only[go_sem]
    refine ⟨Ji,i+1,⟨by omega,hinv⟩,by omega,?_⟩
    simp[forget]
  ·have d1:((i:Int) < (a.length:Int))=False:=Jm
   rw[show a.drop i=[] from Gs (by omega),List.any_nil]at hinv
   simp -implicitDefEqProofs only[go_sem,hil,d1,hinv]
section
variable {t:Tr}{o:List Int}(g:GoodT t o) (ht:t.Fit)
include g ht
theorem refSets {u:Nat}(hu:u < t.nodes.length):JcC Ga 34 [t.cv,.int .i64 (u:Int)] 1 (iz (Ky t u 41)):=by
 have hmany:=g.many
 have hg:=Kg hu
 have hkn:=(fitN ht hu).kidn
 have hkl:(iz (nd t u).kids).length=(nd t u).kids.length:=Jf
 have hK:∀ k∈(nd t u).kids,0≤k∧k < t.nodes.length:=fun c hc=>by have:=g.kid hu hc; omega
 refine JbM (K4 c34_ok fun N=>?_) rfl (Jd _)
 simp -implicitDefEqProofs only[c34,go_sem,Tr.cv,Tr.row]
 refine Jh (id:=0) (z:=2) (els:=[t.row]) rfl rfl ?_
 simp only[go_sem,J3,Kw,frz,KZ,Gm,Gn,Tr.row]
 generalize hF:(fun c=>Jq t.nodes c == 41)=F
 refine JJ (I:=fun i:Nat=>i≤(nd t u).kids.length) (inv:=fun i=>gp [(1,.int .i64 (u:Int)),(0,.rptr t.row),(2,.slc 1 0 (iz (((nd t u).kids.take i).filter F)).length (Jew (iz (((nd t u).kids.take i).filter F)))),(0,.int .i64 (i:Int))] 34) (hp:=fun i=>[.dead,.arr 1 (iz (((nd t u).kids.take i).filter F))]) (μ:=fun i=>(nd t u).kids.length-i) 0 [0,1] (by omega) rfl ?_ ?_ ?_
 ·simp[forget,JG,ren,Jp,gp,Tr.row,iz,Jew]
 ·simp[KP,Jgs,iz]
 ·intro i hi
  by_cases hlt:i < (nd t u).kids.length
  ·have d1:((i:Int) < ((nd t u).kids.length:Int))=True:=Jn
   have hgi:=JQ hlt
   have htk:=Je2 (k:=41) hlt
   have hle:=JdO (t:=t) (u:=u) (k:=41) (i:=i)
   have hmem:(nd t u).kids.getD i 0∈(nd t u).kids:=by rw[Gb,Gg hlt]; exact Gt hlt
   have hb:=hK _ hmem
   rw[hF]at htk hle
   generalize (nd t u).kids.getD i 0=c at htk hgi hb
   obtain ⟨c,rfl⟩:∃ c':Nat,c=c':=⟨c.toNat,by omega⟩
   have hgc:=Kg (t:=t) (i:=c) (by omega)
   generalize ((nd t u).kids.take i).filter F=acc at htk hle
   have hcl:=Jb (ρ:=[0,1]) (Jd acc)
   have hcl2:=Jb (ρ:=[0,3]) (Jd acc)
   have ek:Jq t.nodes (c:Int)=(nd t c).k:=by unfold Jq nd; rw[Gp]
   rw[ek]at htk
   cases hq:(nd t c).k == 41 with
   |false=>
    rw[hq]at htk
    simp only[Bool.false_eq_true,if_false,Gx]at htk
    simp -implicitDefEqProofs only[go_sem,d1,Tr.row,Jc,hg,Nd.cv,hkl,hgi,hgc,kbE,hq]
    refine ⟨by omega,by omega,by omega,by omega,Ji,i+1,[0,1],by omega,by omega,rfl,?_,?_⟩
    ·rw[htk]; simp only[KP,Gm,Gn,go_sem,Jv,Jt,hcl]
    ·rw[htk]; simp[forget,JG,ren,Jp,Tr.row]
   |true=>
    rw[hq]at htk
    simp only[if_true]at htk
    simp -implicitDefEqProofs only[go_sem,d1,Tr.row,Jc,hg,Nd.cv,hkl,hgi,hgc,kbE,hq,JI,Jf]
    refine ⟨by omega,by omega,by omega,by omega,⟨by omega,by omega⟩,Ji,i+1,[0,3],by omega,by omega,rfl,?_,?_⟩
    ·rw[htk,J9]
     simp only[KP,Gm,Gn,go_sem,Jv,Jt]
     simp[hcl2,JG,ren]
    ·rw[htk,J9,YF]
     simp[forget,JG,ren,Jp,Jf,Tr.row]
  ·have d1:((i:Int) < ((nd t u).kids.length:Int))=False:=Jm
   rw[Gh (by omega),show (nd t u).kids.filter F=Ky t u 41 by rw[← hF]; rfl]
   simp -implicitDefEqProofs only[go_sem,d1,Tr.row,Jc,hg,Nd.cv,hkl]
   refine ⟨by omega,1,rfl,rfl⟩
end
end
section
theorem fixA_end {α:Type}{q:α→Bool}{i:Nat}:Qw q ([]:List α) i = -1:=rfl
section
variable {t:Tr}{o:List Int}(g:GoodT t o) (ht:t.Fit)
include g ht
end
end
section
section
variable {t:Tr}{o:List Int}(g:GoodT t o) (ht:t.Fit)
include g ht
omit g ht in
end
end
theorem refCheck3 (t:Tr) (e:Int) (l a:CV) (h:Fn Ga 16 [t.cv] (.tup [l,a,.int .i64 e])):Fn Ga 88 [t.cv] (.int .i64 e):=by
 refine Ja c88_ok rfl rfl fun N=>?_
 simp -implicitDefEqProofs only[c88,go_sem,Tr.cv,Tr.row]
 refine J7 h ?_
 simp -implicitDefEqProofs only[go_sem]
theorem lawValidV (t:Tr) (hv:YP t=true):Fn Ga 33 [t.cv] (.bool false):=by
 have hV:=lawVast3 t
 rw[hv]at hV
 refine Ja c33_ok rfl rfl fun N=>?_
 simp -implicitDefEqProofs only[c33,go_sem,Tr.cv,Tr.row]
 refine J7 hV ?_
 simp -implicitDefEqProofs only[go_sem,Gf]
theorem JdM (t:Tr) (hv:YP t=false) (e:Int) (l a:CV) (h:Fn Ga 16 [t.cv] (.tup [l,a,.int .i64 e])):Fn Ga 33 [t.cv] (.bool (e == 0)):=by
 have hV:=lawVast3 t
 rw[hv]at hV
 refine Ja c33_ok rfl rfl fun N=>?_
 simp -implicitDefEqProofs only[c33,go_sem,Tr.cv,Tr.row]
 refine J7 hV ?_
 simp -implicitDefEqProofs only[go_sem,Gd,Tr.row]
 refine JU (gok rfl) (refCheck3 t e l a h) ?_
 simp -implicitDefEqProofs only[go_sem]
theorem lawValidE (t:Tr) (ht:t.Fit) (hv:YP t=false) (h:chk t≠0):Fn Ga 33 [t.cv] (.bool false):=by
 have:=JdM t hv _ _ _ (refResolveE t ht h)
 rw[show (chk t == 0)=false by simpa using h]at this
 exact this
theorem lawValidG {t:Tr}{o:List Int}(g:GoodT t o) (ht:t.Fit) (hv:YP t=false):Fn Ga 33 [t.cv] (.bool ((Jas t o).2 == 0)):=by
 have hR:=refResolve g ht
 rw[← res_eq g]at hR
 by_cases he:(Jas t o).2=0
 ·rw[if_pos he]at hR
  rw[he]
  exact JdM t hv _ _ _ hR
 ·rw[if_neg he]at hR
  exact JdM t hv _ _ _ hR
section
theorem fixA_lt {α:Type}{q:α→Bool}:∀ (l:List α) (i:Nat),l≠[]→(Qw q l i).toNat < i+l.length
 |[],_,h=>absurd rfl h
 |p::l,i,_=>by
  unfold Qw
  split
  ·simp only[Gc]; omega
  ·by_cases hl:l=[]
   ·subst hl; simp[Qw]
   ·have:=fixA_lt (q:=q) l (i+1) hl
    simp only[Gc]; omega
theorem ordG_len {N:Int→List Int}:∀ (f:Nat) (l:List Int),l.length=f→(Jgt N f l).length=f
 |0,_,_=>rfl
 |f+1,l,h=>by
  have hl:l≠[]:=by rintro rfl; simp at h
  have h1:=fixA_lt (q:=JbK N l) l 0 hl
  rw[Nat.zero_add]at h1
  unfold Jgt
  rw[if_neg hl,Gc,ordG_len f _ (by rw[Gq h1]; omega)]
section
variable {t:Tr}{o:List Int}(g:GoodT t o) (ht:t.Fit)
include g ht
theorem orderedGood (hE:(Jas t o).2=0) (hVd:Fn Ga 33 [t.cv] (.bool true)):Fn Ga 6 [t.cv] (.bool true):=by
 have hmany:=g.many
 have e01:((0:Int) != 0)=false:=rfl
 have hCp:=refCopy t ht
 refine Ja c6_ok rfl rfl fun N=>?_
 simp -implicitDefEqProofs only[c6,go_sem,Tr.cv,Tr.row]
 refine Jh (id:=0) (z:=2) (els:=[t.row]) rfl rfl ?_
 simp only[go_sem,J3,Kw,frz,KZ,Gm,Gn,Tr.row]
 refine J7 hVd ?_
 simp -implicitDefEqProofs only[go_sem,Gf]
 refine vr_loopL (I:=fun i:Nat=>i≤t.nodes.length) (inv:=fun i=>gp [(1,.rptr t.row),(1,.int .i64 (i:Int))] 111) (hp:=fun _=>[.dead]) (μ:=fun i=>t.nodes.length-i) 0 (by omega) (fun Q=>Xt [0] rfl ?_ rfl) ?_
 ·simp[forget,JG,ren,Jp,gp,Tr.row]
 ·intro i hi
  by_cases hlt:i < t.nodes.length
  ·have d1:((i:Int) < (t.nodes.length:Int))=True:=Jn
   have hgi:=Kg hlt
   have hend:∀ (Q:Exit→List CV→List CObj→Prop),True:=fun _=>trivial
   by_cases hk:(nd t i).k=40∨(nd t i).k=28
   ·have hOr:=nOrderF g ht hE hlt hk
    have hSt:=(refSets g ht hlt).fn rfl (Jd _)
    have hLl:(ordL t o (ofL t o) i).length=(Ky t i 41).length:=ordG_len _ _ rfl
    have hKl:=Xu ht (x:=(i:Int)) (k:=41)
    rw[Gp]at hKl
    have hKm:∀ x∈Ky t i 41,0≤x∧x < t.nodes.length∧(nd t x.toNat).k=41:=fun x hx=>by
     have h1:=JbF g hlt hx
     have h2:=(Kh.1 hx).2
     exact ⟨h1.1,h1.2,h2⟩
    have hLd:ordL t o (ofL t o) i=Jgt (fun x=>Kl t o (ofL t o) x.toNat) (Ky t i 41).length (Ky t i 41):=rfl
    have hfree:=fun left hl hne=>JeT g hE (left:=left) hl hne
    have hNd:∀ x:Int,0≤x∧x < t.nodes.length∧(nd t x.toNat).k=41→Fn Ga 14 [t.cv,.int .i64 x] (.tup [.rslc 1 (iz (Kl t o (ofL t o) x.toNat)) none,.int .i64 0])∧(Kl t o (ofL t o) x.toNat).length≤100000:=fun x hx=>by
     obtain ⟨x,rfl⟩:∃ x':Nat,x=x':=⟨x.toNat,by omega⟩
     rw[Gp]at hx ⊢
     refine ⟨nNeedsF g ht hE x (by omega) hx.2.2,?_⟩
     have h3:(Kl t o (ofL t o) x).length≤(J5 t).length:=List.length_filter_le _ _
     have h4:(J5 t).length=t.nodes.length:=by simp[J5]
     omega
    generalize hNf:(fun x:Int=>Kl t o (ofL t o) x.toNat)=Nf at hLd hfree
    have hNd':∀ x:Int,0≤x∧x < t.nodes.length∧(nd t x.toNat).k=41→Fn Ga 14 [t.cv,.int .i64 x] (.tup [.rslc 1 (iz (Nf x)) none,.int .i64 0])∧(Nf x).length≤100000:=fun x hx=>by rw[← hNf]; exact hNd x hx
    clear hNd
    generalize ordL t o (ofL t o) i=L at hOr hLl hLd
    generalize Ky t i 41=K at hSt hLl hLd hKm hKl
    have hiL:(iz L).length=L.length:=Jf
    have hiK:(iz K).length=K.length:=Jf
    have eLK:((L.length:Int) != (K.length:Int))=false:=by rw[hLl]; simp
    have hk40:((nd t i).k == 40)=true∨((nd t i).k == 40)=false∧((nd t i).k == 28)=true:=by rcases hk with h | h <;> rw[h] <;> simp
    rcases hk40 with h40 | ⟨h40,h28⟩
    case' inl=>simp -implicitDefEqProofs only[go_sem,d1,Tr.row,Jc,hgi,Nd.cv,kbN,h40,Gf]
    case' inr=>simp -implicitDefEqProofs only[go_sem,d1,Tr.row,Jc,hgi,Nd.cv,kbN,h40,h28,Gf,Gd]
    case' inl=>refine ⟨by omega,?_⟩
    case' inr=>refine ⟨by omega,by omega,?_⟩
    all_goals
     refine J7 hCp ?_
     simp -implicitDefEqProofs only[go_sem,Tr.cv,Tr.row]
     refine J7 hOr ?_
     simp -implicitDefEqProofs only[go_sem,Tr.row]
     refine J7 hSt ?_
     simp -implicitDefEqProofs only[go_sem,e01,hiL,hiK,eLK]
     refine vr_loopL (σ:=Nat×List Int) (I:=fun s=>s.1+s.2.length=L.length∧(∀ x∈s.2,0≤x∧x < t.nodes.length∧(nd t x.toNat).k=41)∧L=L.take s.1++Jgt Nf s.2.length s.2) (inv:=fun s=>gp [(1,.rptr t.row),(1,.int .i64 (i:Int)),(0,.rslc 1 (iz L) none),(1,.rslc 1 (iz s.2) none),(0,.int .i64 (s.1:Int))] 107) (hp:=fun _=>[.dead]) (μ:=fun s=>s.2.length) (0,K) ⟨by simp only; omega,hKm,by simpa using hLd⟩ (fun Q=>Xt [0] rfl ?_ rfl) ?_
     ·simp[forget,JG,ren,Jp,gp,Tr.row]
     ·rintro ⟨k,left⟩ ⟨hkl,hm,hord⟩
      dsimp only at hkl hm hord
      have hil:(iz left).length=left.length:=Jf
      by_cases hne:left=[]
      ·subst hne
       simp only[Gw]at hkl
       have d2:((k:Int) < (L.length:Int))=False:=Jm
       simp -implicitDefEqProofs only[go_sem,hiL,d2]
       refine ⟨Ji,i+1,by omega,by omega,fun Q=>Xt [0] rfl ?_ rfl⟩
       simp[forget,JG,ren,Jp,Tr.row]
      ·have hlp:=List.length_pos_iff.2 hne
       have d2:((k:Int) < (L.length:Int))=True:=Jn
       obtain ⟨kk,hk1,hk2⟩:=hfree left hm hne
       have hog:Jgt Nf left.length left=left.getD kk 0::Jgt Nf (left.eraseIdx kk).length (left.eraseIdx kk):=by
        rw[Gq hk2]
        obtain ⟨m,hm⟩:∃ m,left.length=m+1:=⟨left.length-1,by omega⟩
        rw[hm,Jgt,if_neg hne,hk1,Gp]; rfl
       have hel:=Gq hk2
       have hgk:=JQ hk2
       have hkL:k < L.length:=by omega
       have hLk:L.getD k 0=left.getD kk 0:=by
        have h:L[k]? = (L.take k++Jgt Nf left.length left)[k]?:=congrArg (·[k]?) hord
        rw[List.getElem?_append_right (by rw[Gj]; omega),Gj,Nat.min_eq_left (by omega),Nat.sub_self,hog]at h
        rw[Gb,h]; rfl
       have hgL:=JQ hkL
       rw[hLk]at hgL
       have hord2:L=L.take (k+1)++Jgt Nf (left.eraseIdx kk).length (left.eraseIdx kk):=by
        rw[List.take_succ_eq_append_getElem hkL,show L[k]=left.getD kk 0 by rw[← hLk,Gb,Gg hkL]; rfl,List.append_assoc,List.singleton_append,← hog]
        exact hord
       simp -implicitDefEqProofs only[go_sem,hiL,d2,Int.reduceNeg]
       refine JC (σ:=Nat×Int) (I:=fun s=>s.1≤left.length∧((s.2 = -1∧Qw (JbK Nf left) (left.drop s.1) s.1=(kk:Int))∨s.2=(kk:Int))) (inv:=fun s=>gp [(1,.rptr t.row),(1,.int .i64 (i:Int)),(0,.rslc 1 (iz L) none),(1,.rslc 1 (iz left) none),(0,.int .i64 (k:Int)),(0,.int .i64 s.2),(0,.int .i64 (s.1:Int))] 105) (hp:=fun _=>[.dead]) (μ:=fun s=>left.length-s.1) (0,-1) ⟨by omega,.inl ⟨rfl,by simpa using hk1⟩⟩ ?_ rfl ?_
       ·simp[forget,gp,Tr.row]
       ·rintro ⟨j,b⟩ ⟨hj,hb⟩
        dsimp only at hj hb
        by_cases hlt2:j < left.length
        ·have e1:((j:Int) < (left.length:Int))=True:=Jn
         have hgi:=JQ hlt2
         have hst:=Qd (q:=JbK Nf left) (l:=left) (i:=j) (p:=left.getD j 0) (by rw[Gb,Gg hlt2]; rfl)
         have hx:=hm (left.getD j 0) (by rw[Gb,Gg hlt2]; exact Gt hlt2)
         generalize left.getD j 0=x at hgi hst hx
         obtain ⟨hNx,hNl⟩:=hNd' x hx
         have hMt:=refMeet (Nf x) left hNl (by omega)
         have hfr:JbK Nf left x = !(Nf x).any fun y=>left.contains y:=rfl
         simp -implicitDefEqProofs only[go_sem,hil,e1]
         refine JS JD (by decide) ?_
         simp -implicitDefEqProofs only[go_sem,Tr.row]
         refine JK (.inl rfl) hCp ?_
         simp -implicitDefEqProofs only[go_sem,hil,hgi,Tr.cv,Tr.row]
         refine ⟨by omega,?_⟩
         refine JK (.inl rfl) hNx ?_
         rcases hb with ⟨rfl,hfx⟩ | rfl
         ·have e2:decide ((-1:Int) < 0)=true:=rfl
          rw[hst]at hfx
          simp -implicitDefEqProofs only[go_sem,e01,e2]
          refine JU (gok rfl) hMt ?_
          cases hM:(Nf x).any fun y=>left.contains y with
          |true=>
           rw[hM,Gf]at hfr
           rw[hfr,if_neg (by simp)]at hfx
           simp -implicitDefEqProofs only[go_sem,Gf]
           refine ⟨Ji,(j+1,-1),⟨by simp only; omega,.inl ⟨rfl,hfx⟩⟩,by simp only; omega,?_⟩
           simp[forget,Tr.row]
          |false=>
           rw[hM,Gd]at hfr
           rw[hfr,if_pos rfl]at hfx
           obtain rfl:j=kk:=by omega
           simp -implicitDefEqProofs only[go_sem,Gd]
           refine ⟨Ji,(j+1,(j:Int)),⟨by simp only; omega,.inr rfl⟩,by simp only; omega,?_⟩
           simp[forget,Tr.row]
         ·have e2:decide ((kk:Int) < 0)=false:=decide_eq_false (by omega)
          simp -implicitDefEqProofs only[go_sem,e01,e2]
          refine ⟨Ji,(j+1,(kk:Int)),⟨by simp only; omega,.inr rfl⟩,by simp only; omega,?_⟩
          simp[forget,Tr.row]
        ·have e1:((j:Int) < (left.length:Int))=False:=Jm
         obtain rfl:b=(kk:Int):=by
          rcases hb with ⟨_,h2⟩ | h
          ·rw[Gs (by omega),fixA_end]at h2; omega
          ·exact h
         have e2:decide ((kk:Int) < 0)=false:=decide_eq_false (by omega)
         have hA:(iz left).take (kk-0)=iz (left.take kk):=by simp[iz,List.map_take]
         have hB:((iz left).drop ((kk:Int)+1).toNat).take (left.length-((kk:Int)+1).toNat)=iz (left.drop (kk+1)):=by
          rw[show ((kk:Int)+1).toNat=kk+1 by omega,Gh (by rw[Gr,Jf]; omega),iz,iz,← List.map_drop]
         have hI:(k+1)+(left.eraseIdx kk).length=L.length∧(∀ x∈left.eraseIdx kk,0≤x∧x < t.nodes.length∧(nd t x.toNat).k=41)∧L=L.take (k+1)++Jgt Nf (left.eraseIdx kk).length (left.eraseIdx kk):=⟨by omega,fun x hx=>hm x (List.mem_of_mem_eraseIdx hx),hord2⟩
         have hmu:(left.eraseIdx kk).length < left.length:=by omega
         have hlen:left.length≤30:=by omega
         have hAl:(left.take kk).length≤30:=by rw[Gj]; omega
         have hBl:(left.drop (kk+1)).length≤30:=by rw[Gr]; omega
         have hABl:(left.take kk).length+(left.drop (kk+1)).length≤30:=by rw[Gj,Gr]; omega
         rw[List.eraseIdx_eq_take_drop_succ]at hI hmu
         generalize left.take kk=A at hA hI hmu hAl hABl
         generalize left.drop (kk+1)=B at hB hI hmu hBl hABl
         generalize left.getD kk 0=y at hgk hgL
         have eyy:(y != y)=false:=by simp
         simp -implicitDefEqProofs only[go_sem,hil,e1]
         refine JS JD (by decide) ?_
         simp -implicitDefEqProofs only[go_sem,hil,hiL,e2,hgk,hgL,eyy]
         refine ⟨by omega,by omega,?_⟩
         refine XM [true,false,false,false,true,false,false,false,false,true,false] JD (by decide +kernel) ?_
         cases A with
         |nil=>
          cases B with
          |nil=>
           simp -implicitDefEqProofs only[go_sem,hil,hA,hB,QF]
           refine ⟨by omega,Ji,by omega,Ji,(k+1,[]),hI,hmu,fun Q=>XR (id:=1) (z:=1) (els:=[]) rfl rfl (Xt [0] rfl ?_ rfl)⟩
           simp[forget,JG,ren,Jp,J3,frz,Tr.row,iz]
          |cons b0 B=>
           simp only[Gc,Gw]at hBl
           simp -implicitDefEqProofs only[go_sem,hil,hA,hB,QF,JX,Jf,JI]
           refine ⟨by omega,Ji,by omega,⟨by omega,by omega⟩,Ji,(k+1,b0::B),hI,hmu,fun Q=>XR (id:=2) (z:=1) (els:=iz (b0::B)) rfl (Jd _) (Xt [0] rfl ?_ rfl)⟩
           simp[forget,JG,ren,Jp,J3,frz,Jf,Tr.row,iz]
           exact Gh (by first | omega | (simp; try omega))
         |cons a0 A=>
          simp only[Gc]at hAl hABl
          cases B with
          |nil=>
           rw[Gx]at hI hmu
           simp -implicitDefEqProofs only[go_sem,hil,hA,hB,QF,JX,Jf,JI]
           refine ⟨by omega,⟨by omega,by omega⟩,Ji,by omega,Ji,(k+1,a0::A),hI,hmu,fun Q=>XR (id:=2) (z:=1) (els:=iz (a0::A)) rfl (Jd _) (Xt [0] rfl ?_ rfl)⟩
           simp[forget,JG,ren,Jp,J3,frz,Jf,Tr.row,iz]
           exact Gh (by first | omega | (simp; try omega))
          |cons b0 B=>
           simp only[Gc]at hBl hABl
           simp -implicitDefEqProofs only[go_sem,hil,hA,hB,JX,Jf,JI]
           refine ⟨by omega,⟨by omega,by omega⟩,Ji,by omega,⟨by omega,by omega⟩,Ji,(k+1,a0::A++b0::B),hI,hmu,fun Q=>XR (id:=3) (z:=1) (els:=iz (a0::A++b0::B)) (by rw[Yi]; rfl) (Jd _) (Xt [0] rfl ?_ rfl)⟩
           simp[forget,JG,ren,Jp,J3,frz,Jf,Tr.row,iz]
           rw[if_pos (by omega),Gh (by simp; try omega)]
           rfl
   ·have h40:((nd t i).k == 40)=false:=by simp; omega
    have h28:((nd t i).k == 28)=false:=by simp; omega
    simp -implicitDefEqProofs only[go_sem,d1,Tr.row,Jc,hgi,Nd.cv,kbN,h40,h28,Gd]
    refine ⟨by omega,by omega,Ji,i+1,by omega,by omega,fun Q=>Xt [0] rfl ?_ rfl⟩
    simp[forget,JG,ren,Jp,Tr.row]
  ·have d1:((i:Int) < (t.nodes.length:Int))=False:=Jm
   simp -implicitDefEqProofs only[go_sem,d1,Tr.row,Jc]
   refine J7 fknown3 ?_
   simp -implicitDefEqProofs only[go_sem]
end
theorem Jcb (t:Tr) (hVd:Fn Ga 33 [t.cv] (.bool false)):Fn Ga 6 [t.cv] (.bool true):=by
 refine Ja c6_ok rfl rfl fun N=>?_
 simp -implicitDefEqProofs only[c6,go_sem,Tr.cv,Tr.row]
 refine J7 hVd ?_
 simp -implicitDefEqProofs only[go_sem,Gd]
 refine J7 fknown3 ?_
 simp -implicitDefEqProofs only[go_sem]
theorem orderedAll (t:Tr) (ty:t.Ty):Fn Ga 6 [t.cv] (.bool true):=by
 cases hv:YP t with
 |true=>exact Jcb t (lawValidV t hv)
 |false=>
  have ht:=ty.fit3 hv
  by_cases h:chk t=0
  ·obtain ⟨o,g⟩:=(Jc8 t).1 h
   have hV:=lawValidG g ht hv
   by_cases hE:(Jas t o).2=0
   ·rw[show ((Jas t o).2 == 0)=true by simp[hE]]at hV
    exact orderedGood g ht hE hV
   ·rw[show ((Jas t o).2 == 0)=false by simpa using hE]at hV
    exact Jcb t hV
  ·exact Jcb t (lawValidE t ht hv h)
end
end Go.Cm
end
end
