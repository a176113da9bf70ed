/-
  A part of the proof. Conditions: none.
-/
import Derived.Test.YtaiboeciecfgoaaGreatDoorRows
import Derived.ProofKit
import Derived.LaidMore
import Derived.Lib.LaidTab
import Derived.Stop.Joined
import Derived.SevenTiedAt
import Derived.Test.YtaiboeciecfgoaaGreatDoorUP50
set_option linter.unusedSimpArgs false
set_option linter.unusedVariables false
open Go.Proofs.Tryz renaming prog→Ga
open List renaming mem_filter→Gc,contains_iff_mem→Gg,getD_eq_getElem?_getD→Gj,getElem?_eq_getElem→Gl,mem_of_find?_eq_some→Gm,mem_cons→Gh,getElem_mem→Gn,find?_some→Gp,mem_range→Gq,drop_zero→Gr,map_cons→Gs,map_nil→Gt,length_filter_le→Gw,filter_sublist→Gx,range→Gu,cons_append→Gy,nil_append→Gz
open Option.some renaming inj→Gi
open Int renaming toNat_natCast→Gf
open Bool renaming not_true→Gb,not_false→Gd,and_eq_true→Gv
noncomputable section
section
open Go.Proofs
set_option maxRecDepth 100000
namespace Go.Cm
section
variable {P:Program}
theorem fits_struct5 {d:Nat}{t:TypeId}{f0 f1 f2 f3 f4:Field}{l:List CV}(ht:P.underlying t=some (.struct #[f0,f1,f2,f3,f4])) (h:fits P (d+1) t l):∃ a b c e f,l=a++(b++(c++(e++f)))∧fits P d f0.type a∧fits P d f1.type b∧fits P d f2.type c∧fits P d f3.type e∧fits P d f4.type f:=by
 simp only[fits,ht]at h
 obtain ⟨ls,rfl,hl,hf⟩:=h
 match ls,hl with
 |[a,b,c,e,f],_=>exact ⟨a,b,c,e,f,by simp,hf 0 f0 a rfl rfl,hf 1 f1 b rfl rfl,hf 2 f2 c rfl rfl,hf 3 f3 e rfl rfl,hf 4 f4 f rfl rfl⟩
end
theorem ints_of {d:Nat}{els:List (List CV)}(h:∀ x∈els,fits Ga d 3 x):∃ l:List Int,els=iz l∧∀ i∈l,InR .i64 i:=by
 induction els with
 |nil=>exact ⟨[],rfl,by simp⟩
 |cons e els ih=>
  obtain ⟨x,rfl,hx⟩:=fits_int Tryz.underlying3 (h e (by simp))
  obtain ⟨l,rfl,hl⟩:=ih fun y hy=>h y (by simp[hy])
  exact ⟨x::l,rfl,fun i hi=>by
   rcases Gh.1 hi with rfl | hi
   ·exact hx
   ·exact hl i hi⟩
theorem node_of {d:Nat}{l:List CV}(h:fits Ga (d+3) 49 l):∃ x:Nd,l=x.cv∧x.Ty:=by
 obtain ⟨a,b,c,e,f,rfl,h1,h2,h3,h4,h5⟩:=fits_struct5 Tryz.underlying49 h
 obtain ⟨k,rfl,hk⟩:=fits_int Tryz.underlying5 h1
 obtain ⟨s,rfl,_⟩:=fits_str Tryz.underlying9 h2
 obtain ⟨n,rfl,hn⟩:=fits_int Tryz.underlying3 h3
 obtain ⟨els,rfl,_,hels⟩:=Jcn Tryz.underlying23 h4
 obtain ⟨p,rfl,hp⟩:=fits_int Tryz.underlying3 h5
 obtain ⟨ks,rfl,hks⟩:=ints_of hels
 have hc:Ga.cellsOf 3=1:=by kernel_rfl
 have hk0:0≤k∧k≤255:=⟨hk.1,hk.2⟩
 refine ⟨⟨k.toNat,s.data.toList,n,ks,p⟩,?_,⟨by show k.toNat < 256; omega,hn,hks,hp⟩⟩
 simp only[Nd.cv,Gy,Gz,hc]
 rw[Int.toNat_of_nonneg hk0.1]
theorem nodes_of {d:Nat}{els:List (List CV)}(h:∀ x∈els,fits Ga (d+3) 49 x):∃ l:List Nd,els=ndz l∧∀ x∈l,x.Ty:=by
 induction els with
 |nil=>exact ⟨[],rfl,by simp⟩
 |cons e els ih=>
  obtain ⟨x,rfl,hx⟩:=node_of (h e (by simp))
  obtain ⟨l,rfl,hl⟩:=ih fun y hy=>h y (by simp[hy])
  exact ⟨x::l,rfl,fun i hi=>by
   rcases Gh.1 hi with rfl | hi
   ·exact hx
   ·exact hl i hi⟩
theorem tree_of {d:Nat}{c:CV}(h:YA Ga (d+5) 25 c):∃ t:Tr,c=t.cv∧t.Ty:=by
 simp only[YA,Tryz.underlying25]at h
 obtain ⟨l,rfl,h⟩:=h
 obtain ⟨a,b,rfl,h1,h2⟩:=fits_struct2 Tryz.underlying25 h
 obtain ⟨els,rfl,_,hels⟩:=Jcn Tryz.underlying22 h1
 obtain ⟨its,rfl,_,hits⟩:=Jcn Tryz.underlying23 h2
 obtain ⟨ns,rfl,hns⟩:=nodes_of hels
 obtain ⟨is,rfl,his⟩:=ints_of hits
 have hc:Ga.cellsOf 3=1:=by kernel_rfl
 have hc5:Ga.cellsOf 49=5:=by kernel_rfl
 refine ⟨⟨ns,is⟩,?_,⟨hns,his⟩⟩
 simp only[Tr.cv,Tr.row,Gy,Gz,hc,hc5]
end Go.Cm
namespace Go.Proofs.YtaiboeciecfgoaaGreatDoor
open Go.Cm
theorem var_cells {P:Program}{w:World}{n:String}{g:Nat}{cs:Array Value}(hg:P.globalNamed n=some g) (h:w.var? P n=some cs):∃ e q,w.heap[g]? = some (.cells cs e q):=by
 simp only[World.var?,hg,Option.bind_some]at h
 split at h
 ·rename_i cs' e q hh
  simp only[Option.some.injEq]at h
  subst h
  exact ⟨e,q,hh⟩
 ·cases h
def Reads (P:Program) (w:World) (n:String) (d:DataW Unit):Prop:=
 ∃ g t cs fuel p,P.globalNamed n=some g∧(P.globals[g]?).map (·.type)=some t∧w.var? P n=some cs∧DataW.trod (fun _=>()) P w 0 (fun _=>true) false fuel t cs.toList=some (d,p)
theorem JfQ {P:Program}{w:World}:∀ {l:List (String×DataW Unit)}{ps:List MemPlace},DataW.LaidVars P w l ps→∀ n d,(n,d)∈l→Reads P w n d
 |[],_,_,_,_,hm=>by cases hm
 |(n',d')::r,ps,h,n,d,hm=>by
  obtain ⟨g,t,cs,fuel,p,q,h1,h2,h3,h4,h5,_⟩:=h
  rcases Gh.1 hm with e | e
  ·cases e
   exact ⟨g,t,cs,fuel,p,h1,h2,h3,h4⟩
  ·exact JfQ h5 n d e
theorem trod_iface {P:Program}{w:World}{t:TypeId}{ms:Array (String×TypeId)}{fuel:Nat}{l:List Value}{s:String}{x:DataW Unit}{p:List MemPlace}(hu:P.underlying t=some (.interface ms)) (h:DataW.trod (fun _=>()) P w 0 (fun _=>true) false fuel t l=some (.iface s x,p)):∃ te pe,l=[.iface te pe]:=by
 cases fuel with
 |zero=>simp[DataW.trod]at h
 |succ fuel=>
  unfold DataW.trod at h
  rw[hu]at h
  split at h
  all_goals first | exact ⟨_,_,rfl⟩ | (rename_i hx _; cases hx; done) | (rename_i hx; cases hx; done) | (simp at h; done) | skip
theorem gl_of {W : World} {rt rs : List (String × DataW Unit)} {x1 x2 : DataW Unit} {s1 s2 : String} (hsh : W.ShapedOpen Ga) {laid : List (String × DataW Unit)} (hL : laidMetH Ga laid W) (hh : (laid.filter fun x => x.2.handleName?.isSome) = [])
    (h1 : ("internal/strconv.uint64pow10", Lib.tabData .u64 Lib.pow10Tab) ∈ laid) (h2 : ("strconv.ErrRange", .iface s1 x1) ∈ laid) (h3 : ("strconv.ErrSyntax", .iface s2 x2) ∈ laid) : GLw W := by
  unfold laidMetH at hL
  rw [hh] at hL
  simp only at hL
  obtain ⟨ps, hv, _⟩ := hL
  have hcell : ∀ B, B < 6 → ∃ c e q, W.heap[B]? = some (.cells c e q) := by
    intro B hB
    obtain ⟨zero, t, hz⟩ : ∃ zero t, ((begin Ga (fun _ _ => 0) default).world.heap[B]?).bind Obj.row? = some (zero, t) := by
      have : ((Gu 6).all fun B => (((begin Ga (fun _ _ => 0) default).world.heap[B]?).bind Obj.row?).isSome) = true := by kernel_rfl
      rw [List.all_eq_true] at this
      have h := this B (by simpa using hB)
      obtain ⟨p, hp⟩ := Option.isSome_iff_exists.1 h
      exact ⟨p.1, p.2, hp⟩
    obtain ⟨cs, hc, _⟩ := hsh.1 B zero t (by have : Ga.globals.size = 6 := by kernel_rfl
                                             omega) hz
    exact ⟨cs, _, _, hc⟩
  have herr : ∀ {n : String} {s : String} {x : DataW Unit} {g : Nat}, Ga.globalNamed n = some g → g < gN → (Ga.globals[g]?).map (·.type) = some 163 → (n, DataW.iface s x) ∈ laid → ∃ te pe e q, (if g < gN then W.heap[g]? else none) = some (.cells #[.iface te pe] e q) := by
    intro n s x g hg hlt hty hm
    obtain ⟨g', t', cs, fuel, p, hg', ht', hvar, hd⟩ := JfQ hv _ _ hm
    obtain rfl := Gi (hg.symm.trans hg')
    obtain rfl := Gi (hty.symm.trans ht')
    obtain ⟨te, pe, hl⟩ := trod_iface Tryz.underlying163 hd
    obtain ⟨e, q, hb⟩ := var_cells hg hvar
    have hcs : cs = #[.iface te pe] := by cases cs; simp_all
    subst hcs
    exact ⟨te, pe, e, q, by rw [if_pos hlt]; exact hb⟩
  refine ⟨fun B hB => ?_, ?_, fun B hB => ?_⟩
  · obtain ⟨c, e, q, h⟩ := hcell B hB
    exact ⟨c, e, q, by simp only [if_pos hB]; exact h⟩
  · obtain ⟨g', t', cs, fuel, p, hg', ht', hvar, hd⟩ := JfQ hv _ _ h1
    have hg : Ga.globalNamed "internal/strconv.uint64pow10" = some gTab := by kernel_rfl
    obtain rfl := Gi (hg.symm.trans hg')
    obtain ⟨e, q, hb⟩ := var_cells hg hvar
    obtain ⟨n, el, hu, hel, hce, hct⟩ : ∃ n el, Ga.underlying t' = some (.array n el) ∧ Ga.underlying el = some (.int .u64) ∧ Ga.cellsOf el = 1 ∧ Ga.cellsOf t' = n := by
      have hty : (Ga.globals[gTab]?).map (·.type) = some 234 := by kernel_rfl
      obtain rfl := Gi (hty.symm.trans ht')
      exact ⟨_, _, Tryz.underlying234, Tryz.underlying153, by kernel_rfl, by kernel_rfl⟩
    have hcs := Lib.cells_of_tab hu hel hce hct hd
    refine ⟨e, q, ?_⟩
    show (if gTab < gN then W.heap[gTab]? else none) = _
    rw [if_pos (by decide), hb, ← hcs]
  · simp only [gErr, Gh, List.not_mem_nil, or_false] at hB
    rcases hB with rfl | rfl
    · exact herr (n := "strconv.ErrSyntax") (by kernel_rfl) (by decide) (by kernel_rfl) h3
    · exact herr (n := "strconv.ErrRange") (by kernel_rfl) (by decide) (by kernel_rfl) h2
section
variable {H:Type}{enc:TypeId×Value→H}
theorem Jf4 {C:Checked}{os:Os}{f:FuncId}{fn:Func}{s:ChangeSpec}{apart fresh handsOn again:Bool}{X:World→Prop}
  (hX:∀ (w w':World),w.heap=w'.heap→X w→X w')
  (own:ownKnob C.prog.godebug=none) (started:os.Started) (noInit:C.prog.inits.idxOf? f=none) (hfn:C.prog.funcs[f]? = some fn)
  (witness:∃ (w:World) (tape:Tape) (i:Input),w.os=os∧(w.forCall tape i).Shaped C.prog∧i.vars=[]∧Input.okWide C.prog (w.forCall tape i) .any w.heap.size f i∧
   ((s.pre enc C.prog fn [] apart (w.forCall tape i).memory i.args∧X (w.forCall tape i).memory)∧sizedMet enc C.prog fn (OpenSpec.ofChange s) apart (w.forCall tape i).memory i.args)∧({}:Assume).holds C.prog (lone (Frame.enter C.prog f i.args .normal) [] (w.forCall tape i)))
  (contract:∀ (W:World) (base:Nat) (args:Array Value) (ds gs:List (DataW H)) (before:List MemPlace),
   (∀ (j:Nat) t v,fn.params[j]? = some t→args[j]? = some v→Value.okWide C.prog W .any base t v)→
   DataW.Whole enc C.prog fn.params.toList s.vars apart W args.toList ds gs before→X W→W.ShapedOpen C.prog→
   Calls C.prog f args W fun e W'=>∃ v,e=.returned v∧s.post enc C.prog fn apart fresh handsOn again W args v W') :
  ReturnsInHanded {} C os f .any (fun w args=>(s.pre enc C.prog fn [] apart w args∧X w)∧sizedMet enc C.prog fn (OpenSpec.ofChange s) apart w args) (s.post enc C.prog fn apart fresh handsOn again):=by
 refine returnsInHanded_of_calls own started noInit witness fun w tape i _ hsh _ hok hpre _=>?_
 obtain ⟨_,_,_,fn',hfn',_,_,_,_,hval⟩:=hok
 obtain rfl:=Gi (hfn'.symm.trans hfn)
 obtain ⟨⟨⟨ds,gs,before,hw,_⟩,hx⟩,_⟩:=hpre
 have hw':=DataW.Whole.of_heap (w':=w.forCall tape i) (by rfl) hw
 have hx':X (w.forCall tape i):=hX _ _ (by rfl) hx
 refine (contract (w.forCall tape i) w.heap.size i.args ds gs before hval hw' hx' hsh).mono fun e W' ⟨v,he,hp⟩=>?_
 subst he
 exact ChangeSpec.post_blind hp
end
theorem ownK:ownKnob Ga.godebug=none:=by kernel_rfl
theorem ty_laid:laidOutB Ga=true:=by kernel_rfl
theorem ty_maps:mapsRowed Ga=true:=by kernel_rfl
theorem ty_full:((Gu Ga.types.size).all fun t=>match Ga.underlying t with | some (.slice e)=>decide (0 < Ga.cellsOf e) | _=>true)=true:=by kernel_rfl
end Go.Proofs.YtaiboeciecfgoaaGreatDoor
end
section
set_option maxRecDepth 100000
set_option maxHeartbeats 4000000
open Go.Proofs
namespace Go.Cm
section
section
variable {t:Tr}{o:List Int}(g:GoodT t o)
include g
theorem item_blw {j u:Nat}(hu:u < t.nodes.length) (h:blw o j u):Qr t j=Qr t u:=by
 unfold Qr
 congr 1
 refine List.filter_congr fun L hL=>?_
 rw[items_all g]at hL
 have h1:=Kb.1 (Gc.1 hL).1
 have h2:(nd t L.toNat).k=65:=by simpa using (Gc.1 hL).2
 obtain ⟨L,rfl⟩:∃ L':Nat,L=L':=⟨L.toNat,by omega⟩
 rw[Gf]at h2
 have hj:=h.1
 rw[Bool.eq_iff_iff,decide_eq_true_eq,decide_eq_true_eq]
 constructor
 ·intro h3; omega
 ·intro h3
  rcases Nat.lt_or_ge L j with h4 | h4
  ·omega
  ·have hb:blw o L u:=⟨by omega,by have:=h.2; omega⟩
   obtain ⟨m,hm,_⟩:=XE g hu hb (by omega)
   have:=(def_root g (d:=L) (by omega) h2).1
   omega
theorem sight_top {d j:Nat}(hj:j < t.nodes.length) (h:(d:Int)∈JY t j):∃ u:Nat,u < t.nodes.length∧blw o j u∧blw o d u:=by
 have h1:=(Gc.1 h).2
 rw[Gg,JbQ g _ _ _ hj (by omega)]at h1
 obtain ⟨u,a,hu,ha,hb,hd⟩:=h1
 refine ⟨u,hu,Q4 g hu hb (Xr g hu ha),?_⟩
 rw[QG g hu]at hd
 rcases hd with ⟨_,s,hs,_,hk,_⟩ | ⟨_,hk,_⟩ | ⟨_,_,rfl⟩ | ⟨_,_,⟨hk,_⟩ | ⟨_,s,hs,_,hk,_⟩⟩
 ·have hsl:=(J6 g hu hs).2
  exact Q4 g hu (Xr g (by omega) hk) (Xr g hu hs)
 ·exact Xr g hu hk
 ·exact Jdb g hu
 ·exact Xr g hu hk
 ·have hsl:=(J6 g hu hs).2
  exact Q4 g hu (Xr g (by omega) hk) (Xr g hu hs)
theorem sight_mono {i j:Nat}(hi:i < t.nodes.length) (hj:j < t.nodes.length) (h:blw o i j) {d:Int}(hd:d∈JY t j):d∈JY t i:=by
 obtain ⟨h1,h2⟩:=Gc.1 hd
 refine Gc.2 ⟨h1,?_⟩
 rw[Gg,JbQ g _ _ _ hj (by omega)]at h2
 rw[Gg,JbQ g _ _ _ hi (by omega)]
 obtain ⟨u,a,hu,ha,hb,hdl⟩:=h2
 have hal:=(J6 g hu ha).2
 exact ⟨u,a,hu,ha,Q4 g (by omega) h hb,hdl⟩
theorem JeP {d j:Nat}(hj:j < t.nodes.length) (h:(d:Int)∈JY t j):Qr t d=Qr t j:=by
 obtain ⟨u,hu,h1,h2⟩:=sight_top g hj h
 rw[item_blw g hu h1,item_blw g hu h2]
theorem Jb4 {d j:Nat}(hj:j < t.nodes.length) (hje:1≤(nd t j).k∧(nd t j).k≤29) (h:(d:Int)∈JY t j):d < t.nodes.length∧Ku (nd t d).k=true∧(nd t d).k≠65∧inB t o d j=true:=by
 obtain ⟨h1,h2⟩:=Gc.1 h
 have hd:=Kb.1 h1
 rw[sight_mem g (d:=d) (by omega) hj hje]at h2
 simp only[Gv,Bool.not_eq_true',beq_eq_false_iff_ne]at h2
 exact ⟨by omega,h2.1,h2.2.1,h2.2.2⟩
theorem sight_two {d e j:Nat}(hj:j < t.nodes.length) (hje:1≤(nd t j).k∧(nd t j).k≤29) (htw:∀ i,i < t.nodes.length→twN t i=false) (hd:(d:Int)∈JY t j) (he:(e:Int)∈JY t j) (hx:(nd t d).text=(nd t e).text):¬ d < e:=by
 intro hlt
 obtain ⟨d1,d2,d3,_⟩:=Jb4 g hj hje hd
 obtain ⟨e1,e2,e3,_⟩:=Jb4 g hj hje he
 have hit:Qr t d=Qr t e:=(JeP g hj hd).trans (JeP g hj he).symm
 have h:=htw e e1
 have e44:(nd t e).k≠44:=by intro h4; rw[h4]at e2; exact absurd e2 (by decide)
 unfold twN at h
 rw[if_neg (by rw[e2]; simp),List.any_eq_false]at h
 have:=h d (Gq.2 hlt)
 rw[if_neg e44,if_neg e3,hx,hit,d2]at this
 simp at this
 exact d3 this
end
theorem scan_none {t:Tr}{o:List Int}{a b:Int}:∀ {l:List Nat},Xg t o a b l=none→∀ i∈l,twN t i=false∧(KL t i=true→J7 t o i≠-1)
 |[],_,i,hi=>by simp at hi
 |x::l,h,i,hi=>by
  unfold Xg at h
  split at h
  ·cases h
  ·rename_i h1
   split at h
   ·cases h
   ·rename_i h2
    rcases Gh.1 hi with rfl | hi
    ·refine ⟨by simpa using h1,fun hs hm=>h2 (by rw[hs,hm]; rfl)⟩
    ·exact scan_none h i hi
theorem scan_err {t:Tr}{o:List Int}{r:Nat×Int}:∀ {l:List Nat},Xg t o 6 10 l=some r→r.2=6∨r.2=10
 |[],h=>by cases h
 |x::l,h=>by
  unfold Xg at h
  split at h
  ·cases h; exact .inl rfl
  ·split at h
   ·cases h; exact .inr rfl
   ·exact scan_err h
theorem res_scan {t:Tr}{o:List Int}(hE:(Xo t o).2=0) {i:Nat}(hi:i < t.nodes.length):twN t i=false∧(KL t i=true→J7 t o i≠-1):=by
 unfold Xo at hE
 cases hs:Xg t o 6 10 (Gu t.nodes.length) with
 |some r=>rw[hs]at hE; have:=scan_err hs; simp only at hE; omega
 |none=>exact scan_none hs i (Gq.2 hi)
section
variable {t:Tr}{o:List Int}(g:GoodT t o)
include g
theorem mean_name (hE:(Xo t o).2=0) {j:Nat}(hj:j < t.nodes.length) (hk:(nd t j).k=3):J7 t o j∈JY t j∧0≤J7 t o j∧J7 t o j < t.nodes.length∧(nd t (J7 t o j).toNat).text=(nd t j).text∧Ku (nd t (J7 t o j).toNat).k=true:=by
 have h1:=(res_scan hE hj).2 (by unfold KL; rw[hk]; rfl)
 have hm:J7 t o j=JaT t (JY t j) (nd t j).text:=by
  unfold J7; rw[if_pos hk,JdJ g hj (by omega)]
 rw[hm]at h1 ⊢
 unfold JaT at h1 ⊢
 cases hf:(JY t j).find? fun d=>(nd t d.toNat).text == (nd t j).text with
 |none=>rw[hf]at h1; exact absurd rfl h1
 |some d=>
  simp only
  have h2:=Gm hf
  have h3:=Gp hf
  have h4:=Kb.1 (Gc.1 h2).1
  obtain ⟨d,rfl⟩:∃ d':Nat,d=d':=⟨d.toNat,by omega⟩
  exact ⟨h2,h4.1,h4.2,by simpa using h3,by rw[Gf]; exact (Jb4 g hj (by omega) h2).2.1⟩
omit g in
theorem mean_other {j:Nat}(hk:(nd t j).k≠3) (h0:0≤J7 t o j):J7 t o j < t.nodes.length∧((nd t (J7 t o j).toNat).k=65∨(nd t (J7 t o j).toNat).k=43):=by
 unfold J7 at h0 ⊢
 rw[if_neg hk]at h0 ⊢
 split at h0
 ·rename_i h26
  rw[if_pos h26]
  unfold JdL at h0 ⊢
  generalize hf:(J5 t).find? _=r at h0 ⊢
  cases r with
  |none=>simp only at h0; omega
  |some d=>
   have h2:=Gm hf
   have h3:=Gp hf
   simp only[Gv,beq_iff_eq]at h3
   exact ⟨(Kb.1 h2).2,.inl h3.2.2⟩
 ·rename_i h26
  rw[if_neg h26]
  split at h0
  ·rename_i h44
   rw[if_pos h44]
   unfold Jcz at h0 ⊢
   generalize hf:(J5 t).find? _=r at h0 ⊢
   cases r with
   |none=>simp only at h0; omega
   |some d=>
    have h2:=Gm hf
    have h3:=Gp hf
    simp only[Gv,beq_iff_eq]at h3
    exact ⟨(Kb.1 h2).2,.inr h3.2.2.1⟩
  ·omega
theorem mean_one (hE:(Xo t o).2=0) {j:Nat}(hj:j < t.nodes.length) (hk:(nd t j).k=3):((JY t j).filter fun d=>(nd t d.toNat).text == (nd t j).text).length=1:=by
 obtain ⟨h1,h2,h3,h4,_⟩:=mean_name g hE hj hk
 have hasc:((JY t j).filter fun d=>(nd t d.toNat).text == (nd t j).text).Pairwise (· < ·):=(YM.sublist Gx).sublist Gx
 have hall:∀ x∈(JY t j).filter fun d=>(nd t d.toNat).text == (nd t j).text,x=J7 t o j:=fun x hx=>by
  obtain ⟨x1,x2⟩:=Gc.1 hx
  have x3:=Kb.1 (Gc.1 x1).1
  have x4:(nd t x.toNat).text=(nd t j).text:=by simpa using x2
  generalize J7 t o j=m at h1 h2 h3 h4
  obtain ⟨x,rfl⟩:∃ x':Nat,x=x':=⟨x.toNat,by omega⟩
  obtain ⟨m,rfl⟩:∃ m':Nat,m=m':=⟨m.toNat,by omega⟩
  rw[Gf]at x4 h4
  have htw:=fun i hi=>(res_scan hE (t:=t) (o:=o) (i:=i) hi).1
  have a1:=sight_two g hj (by omega) htw x1 h1 (x4.trans h4.symm)
  have a2:=sight_two g hj (by omega) htw h1 x1 (h4.trans x4.symm)
  omega
 have hmem:J7 t o j∈(JY t j).filter fun d=>(nd t d.toNat).text == (nd t j).text:=Gc.2 ⟨h1,by simpa using h4⟩
 generalize (JY t j).filter (fun d=>(nd t d.toNat).text == (nd t j).text)=R at hasc hall hmem ⊢
 match R,hasc,hall,hmem with
 |[],_,_,hmem=>simp at hmem
 |[_],_,_,_=>rfl
 |x::y::l,hasc,hall,_=>
  have e1:=hall x (by simp)
  have e2:=hall y (by simp)
  have:=(List.pairwise_cons.1 hasc).1 y (by simp)
  omega
end
end
theorem refCheck3 (t:Tr) (e:Int) (l a:CV) (h:Fn Ga 16 [t.cv] (.tup [l,a,.int .i64 e])):Fn Ga 88 [t.cv] (.int .i64 e):=by
 refine Ja c88_ok rfl rfl fun N=>?_
 simp -implicitDefEqProofs only[c88,go_sem,Tr.cv,Tr.row]
 refine JX h ?_
 simp -implicitDefEqProofs only[go_sem]
theorem lawValidV (t:Tr) (hv:YU t=true):Fn Ga 33 [t.cv] (.bool false):=by
 have hV:=lawVast3 t
 rw[hv]at hV
 refine Ja c33_ok rfl rfl fun N=>?_
 simp -implicitDefEqProofs only[c33,go_sem,Tr.cv,Tr.row]
 refine JX hV ?_
 simp -implicitDefEqProofs only[go_sem,Gb]
theorem JdP (t:Tr) (hv:YU t=false) (e:Int) (l a:CV) (h:Fn Ga 16 [t.cv] (.tup [l,a,.int .i64 e])):Fn Ga 33 [t.cv] (.bool (e == 0)):=by
 have hV:=lawVast3 t
 rw[hv]at hV
 refine Ja c33_ok rfl rfl fun N=>?_
 simp -implicitDefEqProofs only[c33,go_sem,Tr.cv,Tr.row]
 refine JX hV ?_
 simp -implicitDefEqProofs only[go_sem,Gd,Tr.row]
 refine JQ (gok rfl) (refCheck3 t e l a h) ?_
 simp -implicitDefEqProofs only[go_sem]
theorem lawValidE (t:Tr) (ht:t.Fit) (hv:YU t=false) (h:chk t≠0):Fn Ga 33 [t.cv] (.bool false):=by
 have:=JdP t hv _ _ _ (refResolveE t ht h)
 rw[show (chk t == 0)=false by simpa using h]at this
 exact this
theorem lawValidG {t:Tr}{o:List Int}(g:GoodT t o) (ht:t.Fit) (hv:YU t=false):Fn Ga 33 [t.cv] (.bool ((Xo t o).2 == 0)):=by
 have hR:=refResolve g ht
 rw[← res_eq g]at hR
 by_cases he:(Xo t o).2=0
 ·rw[if_pos he]at hR
  rw[he]
  exact JdP t hv _ _ _ hR
 ·rw[if_neg he]at hR
  exact JdP t hv _ _ _ hR
section
theorem lawWithin (l:List Int) (n:Nat) (hl:l.length≤100000) (h:∀ x∈l,0≤x∧x < n):Fn Ga 38 [.rslc 1 (iz l) none,.int .i64 (n:Int)] (.bool true):=by
 have hil:(iz l).length=l.length:=Jf
 refine Ja c38_ok rfl rfl fun N=>?_
 simp -implicitDefEqProofs only[c38,go_sem]
 refine Jz (I:=fun i:Nat=>i≤l.length) (inv:=fun i=>gp [(0,.rslc 1 (iz l) none),(0,.int .i64 (n:Int)),(3,.int .i64 (i:Int))] 19) (hp:=fun _=>[]) (μ:=fun i=>l.length-i) 0 (by omega) ?_ rfl ?_
 ·simp[forget,gp]
 ·intro i hi
  by_cases hlt:i < l.length
  ·have d1:((i:Int) < (l.length:Int))=True:=Jn
   have hgi:=JR hlt
   have hx:=h (l.getD i 0) (by rw[Gj,Gl hlt]; exact Gn hlt)
   generalize l.getD i 0=x at hgi hx
   have e1:decide (x < 0)=false:=decide_eq_false (by omega)
   have e2:decide ((n:Int)≤x)=false:=decide_eq_false (by omega)
   simp -implicitDefEqProofs only[go_sem,d1,hil,hgi,e1,e2]
   refine ⟨by omega,by omega,Ji,i+1,by omega,by omega,?_⟩
   simp[forget]
  ·have d1:((i:Int) < (l.length:Int))=False:=Jm
   simp -implicitDefEqProofs only[go_sem,d1,hil]
def cntT (t:Tr) (s:List UInt8) (l:List Int) (j:Nat):Nat:=((l.take j).filter fun x=>(nd t x.toNat).text == s).length
theorem cntT_succ {t:Tr}{s:List UInt8}{l:List Int}{j:Nat}(h:j < l.length):cntT t s l (j+1)=cntT t s l j+if ((nd t (l.getD j 0).toNat).text == s)=true then 1 else 0:=by
 unfold cntT
 rw[List.take_succ_eq_append_getElem h,List.filter_append,List.length_append,List.filter_cons,List.filter_nil,Gj,Gl h]
 simp only[Option.getD_some]
 split <;> rfl
theorem cntT_le {t:Tr}{s:List UInt8}{l:List Int}{j:Nat}:cntT t s l j≤j:=by
 unfold cntT
 exact Nat.le_trans (Gw _ _) (by rw[List.length_take]; omega)
section
variable {t:Tr}{o:List Int}(g:GoodT t o) (ht:t.Fit)
include g ht
theorem meantGood (hE : (Xo t o).2 = 0) (hVd : Fn Ga 33 [t.cv] (.bool true)) (p : Int) (hp : InR .u8 p) : Fn Ga 7 [t.cv, .int .u8 p] (.bool true) := by
  have hmany := g.many
  have e01 : ((0 : Int) != 0) = false := rfl
  have hCp := refCopy t ht
  have hRs := Yv g ht
  rw [if_pos hE] at hRs
  have hp2 : 0 ≤ p ∧ p ≤ 255 := ⟨hp.lo, hp.hi⟩
  have hol : (iz (ofL t o)).length = t.nodes.length := by rw [Jf, Qf]
  refine Ja c7_ok rfl rfl fun N => ?_
  simp (config := {implicitDefEqProofs := false}) only [c7, go_sem, Tr.cv, Tr.row]
  refine JX hVd ?_
  by_cases h0 : t.nodes.length = 0
  · have d0 : ((t.nodes.length : Int) == 0) = true := by simp [h0]
    simp (config := {implicitDefEqProofs := false}) only [go_sem, Gb, Jb, d0]
    refine JX Jgc ?_
    simp (config := {implicitDefEqProofs := false}) only [go_sem]
  have d0 : ((t.nodes.length : Int) == 0) = false := by simpa using h0
  have dnn : ((t.nodes.length : Int) != (t.nodes.length : Int)) = false := by simp
  have hS : ∀ j : Nat, j < t.nodes.length → Fn Ga 37 [t.cv, .int .i64 (j : Int)] (if Ja6 (nd t j).k = true then .tup [.rslc 1 (iz (JY t j)) none, .int .i64 0] else .tup [.nils, .int .i64 7]) := fun j hj => by
    have h := nSightP g ht (j : Int)
    rw [if_neg (show ¬ (Xo t o).2 ≠ 0 by simp [hE]), Gf, Jaf.2 ⟨by omega, by omega⟩, Bool.true_and] at h
    exact h
  have hIx : ∀ j : Nat, Fn Ga 30 [.int .u8 ((nd t j).k : Int)] (.bool (Ja6 (nd t j).k)) := fun j => refIsExpr (nd t j).k
  simp (config := {implicitDefEqProofs := false}) only [go_sem, Gb, Jb, d0, Tr.row]
  refine JX hCp ?_
  simp (config := {implicitDefEqProofs := false}) only [go_sem, Tr.cv, Tr.row]
  refine JX hRs ?_
  simp (config := {implicitDefEqProofs := false}) only [go_sem, e01, hol, Jb, dnn]
  refine ⟨Ji, Ji, by omega, ?_⟩
  refine Jh (id := 0) (z := 2) (els := [t.row]) rfl rfl ?_
  simp only [go_sem, J9, KA, frz, KV, Gs, Gt, Gr, Tr.row]
  refine Jh (id := 1) (z := 1) (els := [[.rslc 1 (iz (ofL t o)) none]]) rfl rfl ?_
  simp only [go_sem, J9, KA, frz, KV, Gs, Gt, Gr]
  have htm : ∀ x : Int, 0 ≤ x → ∃ d : Nat, x.tmod (t.nodes.length : Int) = d ∧ d < t.nodes.length := fun x hx => by
    have h1 : 0 ≤ x.tmod (t.nodes.length : Int) := Int.tmod_nonneg _ hx
    have h2 : x.tmod (t.nodes.length : Int) < t.nodes.length := Int.tmod_lt_of_pos _ (by omega)
    exact ⟨(x.tmod (t.nodes.length : Int)).toNat, by omega, by omega⟩
  obtain ⟨d, hd, hdl⟩ := htm (p * 3) (by omega)
  rw [hd]
  refine Jz (σ := Nat × Nat) (I := fun s => s.1 < t.nodes.length ∧ s.2 ≤ t.nodes.length) (inv := fun s => gp [(2, .rptr t.row), (2, .rptr [.rslc 1 (iz (ofL t o)) none]), (2, .int .i64 (s.1 : Int)), (0, .int .i64 (s.2 : Int))] 234) (hp := fun _ => [.dead, .dead]) (μ := fun s => t.nodes.length - s.2) (d, 0) ⟨hdl, by simp⟩ ?_ rfl ?_
  · simp [forget, gp, Tr.row]
  clear hd hdl d
  rintro ⟨d, i⟩ ⟨hd, hi⟩
  dsimp only at hd hi
  have hgd := Ke hd
  have hSd := hS d hd
  have hXd := hIx d
  have hout : ∀ x ∈ JY t d, 0 ≤ x ∧ x < t.nodes.length := fun x hx => Kb.1 (Gc.1 hx).1
  have hsl : ∀ j, (JY t j).length ≤ 100000 := fun j => by
    have h1 : (JY t j).length ≤ (J5 t).length := Gw _ _
    have h2 : (J5 t).length = t.nodes.length := by simp [J5]
    omega
  have hmono : ∀ j : Nat, j < t.nodes.length → JaI o j d = true → ∀ x ∈ JY t d, (JY t j).contains x = true := fun j hj hb x hx => by
    rw [Gg]; exact sight_mono g hj hd (KS.1 hb) hx
  have hsd := hsl d
  have hw : (i < t.nodes.length ∧ Ja6 (nd t d).k = false) ∨ (¬ i < t.nodes.length ∧ Ja6 (nd t d).k = false) ∨ (i < t.nodes.length ∧ Ja6 (nd t d).k = true) ∨ (¬ i < t.nodes.length ∧ Ja6 (nd t d).k = true) := by
    by_cases h : i < t.nodes.length <;> cases Ja6 (nd t d).k <;> simp [h]
  rcases hw with ⟨hlt, hw⟩ | ⟨hlt, hw⟩ | ⟨hlt, hw⟩ | ⟨hlt, hw⟩
  · have d1 : decide ((i : Int) < (t.nodes.length : Int)) = true := decide_eq_true (by omega)
    obtain ⟨e, he, hel⟩ := htm ((d : Int) + 1) (by omega)
    rw [hw] at hXd
    simp (config := {implicitDefEqProofs := false}) only [go_sem, Jb, d1, Tr.row, hgd, Nd.cv]
    refine ⟨by omega, ?_⟩
    refine JQ (gok rfl) hXd ?_
    simp (config := {implicitDefEqProofs := false}) only [go_sem, Gd, Jb, he]
    refine ⟨Ji, by omega, Ji, (e, i + 1), ⟨hel, by simp only; omega⟩, by simp only; omega, ?_⟩
    simp [forget, Tr.row]
  · have d1 : decide ((i : Int) < (t.nodes.length : Int)) = false := decide_eq_false (by omega)
    simp (config := {implicitDefEqProofs := false}) only [go_sem, Jb, d1, Tr.row]
    rw [hw, if_neg (by simp)] at hSd
    rw [hw] at hXd
    refine JX hCp ?_
    simp (config := {implicitDefEqProofs := false}) only [go_sem, Tr.cv, Tr.row]
    refine JX hSd ?_
    simp (config := {implicitDefEqProofs := false}) only [go_sem, Jb, hgd, Nd.cv]
    refine ⟨by omega, ?_⟩
    refine JX hXd ?_
    simp (config := {implicitDefEqProofs := false}) only [go_sem, Gd]
    refine JX Jgc ?_
    simp (config := {implicitDefEqProofs := false}) only [go_sem]
  case' inr.inr.inl =>
    have d1 : decide ((i : Int) < (t.nodes.length : Int)) = true := decide_eq_true (by omega)
    simp (config := {implicitDefEqProofs := false}) only [go_sem, Jb, d1, Tr.row, hgd, Nd.cv]
    refine ⟨by omega, ?_⟩
    rw [hw] at hXd
    refine JQ (gok rfl) hXd ?_
    simp (config := {implicitDefEqProofs := false}) only [go_sem, Gb, Tr.row]
  case' inr.inr.inr =>
    have d1 : decide ((i : Int) < (t.nodes.length : Int)) = false := decide_eq_false (by omega)
    rw [hw] at hXd
    simp (config := {implicitDefEqProofs := false}) only [go_sem, Jb, d1, Tr.row]
  all_goals
    rw [hw, if_pos rfl] at hSd
    refine JX hCp ?_
    simp (config := {implicitDefEqProofs := false}) only [go_sem, Tr.cv, Tr.row]
    refine JX hSd ?_
    simp (config := {implicitDefEqProofs := false}) only [go_sem, Jb, hgd, Nd.cv]
    refine ⟨by omega, ?_⟩
    refine JX hXd ?_
    simp (config := {implicitDefEqProofs := false}) only [go_sem, Gb, e01]
    clear hSd hXd hgd
    generalize hou : JY t d = outer at hout hmono hsd ⊢
    have hil : (iz outer).length = outer.length := Jf
    refine vr_loopL (I := fun i : Nat => i ≤ t.nodes.length) (inv := fun i => gp [(2, .rptr t.row), (2, .rptr [.rslc 1 (iz (ofL t o)) none]), (2, .int .i64 (d : Int)), (1, .rslc 1 (iz outer) none), (1, .int .i64 (i : Int))] 231) (hp := fun _ => [.dead, .dead]) (μ := fun i => t.nodes.length - i) 0 (by omega) (fun Q => JaC [0, 1] rfl ?_ rfl) ?_
    · simp [forget, JH, ren, Jp, gp, Tr.row]
    clear hlt d1 hi i
    intro i hi
    by_cases hlt : i < t.nodes.length
    · have d1 : ((i : Int) < (t.nodes.length : Int)) = True := Jn
      have hgi := Ke hlt
      have hgo : (iz (ofL t o)).getD i [] = [.int .i64 (J7 t o i)] := by rw [JR (by rw [Qf]; exact hlt), ofL_get hlt]
      have hSi := hS i hlt
      have hXi := hIx i
      have hin : ∀ x ∈ JY t i, 0 ≤ x ∧ x < t.nodes.length := fun x hx => Kb.1 (Gc.1 hx).1
      have hWi := lawWithin (JY t i) t.nodes.length (hsl i) hin
      have hil2 : (iz (JY t i)).length = (JY t i).length := Jf
      have hsi := hsl i
      have hHas := fun x => refHas3 (JY t i) x (hsl i)
      have hmi := hmono i hlt
      have hcase : ((nd t i).k = 3 ∧ ∃ m : Nat, J7 t o i = m ∧ m < t.nodes.length ∧ Ku (nd t m).k = true ∧ (JY t i).contains (m : Int) = true) ∨ ((nd t i).k ≠ 3 ∧ J7 t o i < 0) ∨ ∃ m : Nat, (nd t i).k ≠ 3 ∧ J7 t o i = m ∧ m < t.nodes.length ∧ ((nd t m).k = 65 ∨ (nd t m).k = 43) := by
        by_cases h3 : (nd t i).k = 3
        · obtain ⟨q1, q2, q3, q4, q5⟩ := mean_name g hE hlt h3
          obtain ⟨m, hm⟩ : ∃ m : Nat, J7 t o i = m := ⟨(J7 t o i).toNat, by omega⟩
          rw [hm] at q1 q3 q5
          rw [Gf] at q5
          exact .inl ⟨h3, m, hm, by omega, q5, Gg.2 q1⟩
        · by_cases h4 : J7 t o i < 0
          · exact .inr (.inl ⟨h3, h4⟩)
          · have q := mean_other (t := t) (o := o) h3 (by omega)
            obtain ⟨m, hm⟩ : ∃ m : Nat, J7 t o i = m := ⟨(J7 t o i).toNat, by omega⟩
            rw [hm] at q
            rw [Gf] at q
            exact .inr (.inr ⟨m, h3, hm, by omega, q.2⟩)
      obtain ⟨b3, hb3⟩ : ∃ b3, ((nd t i).k == 3) = b3 := ⟨_, rfl⟩
      simp (config := {implicitDefEqProofs := false}) only [go_sem, d1, Jb, hgi, Tr.row, Nd.cv, List.length_cons, List.length_nil]
      refine ⟨by omega, ?_⟩
      refine Jh (id := 2) (z := 5) (els := [(nd t i).cv]) rfl rfl ?_
      simp only [go_sem, J9, KA, frz, KV, Gs, Gt, Gr, Nd.cv]
      refine JS JD (by decide) ?_
      rcases hcase with ⟨h3, m, hm, hml, hmd, hms⟩ | ⟨h3, h4⟩ | ⟨m, h3, hm, hml, h65 | h43⟩
      case' inl =>
        rw [show ((nd t i).k == 3) = true by simp [h3]] at hb3
        subst hb3
        have e3 : ((nd t i).k == 3) = true := by simp [h3]
        simp (config := {implicitDefEqProofs := false}) only [go_sem, kbN, e3, Gb, Tr.row]
      case' inr.inl =>
        have e3 : ((nd t i).k == 3) = false := by simpa using h3
        rw [e3] at hb3
        subst hb3
        have e4 : decide (0 ≤ J7 t o i) = false := decide_eq_false (by omega)
        simp (config := {implicitDefEqProofs := false}) only [go_sem, kbN, e3, Gd, Qf, hol, hgo, e4, Tr.row]
        refine ⟨by omega, ?_⟩
      case' inr.inr.inl =>
        have e3 : ((nd t i).k == 3) = false := by simpa using h3
        rw [e3] at hb3
        subst hb3
        have e4 : decide (0 ≤ (m : Int)) = true := decide_eq_true (by omega)
        have e5 : ((nd t m).k == 65) = true := by simp [h65]
        rw [hm] at hgo
        simp (config := {implicitDefEqProofs := false}) only [go_sem, kbN, e3, Gd, Gb, hol, hgo, e4, Jb, Ke hml, Nd.cv, e5, Tr.row]
        refine ⟨by omega, by omega, by omega, ?_⟩
      case' inr.inr.inr =>
        have e3 : ((nd t i).k == 3) = false := by simpa using h3
        rw [e3] at hb3
        subst hb3
        have e4 : decide (0 ≤ (m : Int)) = true := decide_eq_true (by omega)
        have e5 : ((nd t m).k == 65) = false := by simp [h43]
        have e6 : ((nd t m).k == 43) = true := by simp [h43]
        rw [hm] at hgo
        simp (config := {implicitDefEqProofs := false}) only [go_sem, kbN, e3, Gd, Gb, hol, hgo, e4, Jb, Ke hml, Nd.cv, e5, e6, Tr.row]
        refine ⟨by omega, by omega, by omega, by omega, by omega, ?_⟩
      all_goals
        refine JX (XD g ht (j := i) hd) ?_
        cases hb : JaI o i d with
        | false =>
          simp (config := {implicitDefEqProofs := false}) only [go_sem, Gd]
          exact ⟨Ji, i + 1, by omega, by omega, fun Q => JaC [0, 1] rfl (by simp [forget, JH, ren, Jp, Tr.row]) rfl⟩
        | true =>
          simp (config := {implicitDefEqProofs := false}) only [go_sem, Gb]
          refine JQ (gok rfl) hXi ?_
          cases hx : Ja6 (nd t i).k with
          | false =>
            simp (config := {implicitDefEqProofs := false}) only [go_sem, Gd]
            exact ⟨Ji, i + 1, by omega, by omega, fun Q => JaC [0, 1] rfl (by simp [forget, JH, ren, Jp, Tr.row]) rfl⟩
          | true =>
            rw [hx, if_pos rfl] at hSi
            simp (config := {implicitDefEqProofs := false}) only [go_sem, Gb, Tr.row]
            refine JX hCp ?_
            simp (config := {implicitDefEqProofs := false}) only [go_sem, Tr.cv, Tr.row]
            refine JX hSi ?_
            simp (config := {implicitDefEqProofs := false}) only [go_sem, e01, Jb]
            refine JQ (gok rfl) hWi ?_
            simp (config := {implicitDefEqProofs := false}) only [go_sem, Gb]
            refine Jz (I := fun k : Nat => k ≤ outer.length) (inv := fun k => gp [(2, .rptr t.row), (2, .rptr [.rslc 1 (iz (ofL t o)) none]), (2, .int .i64 (d : Int)), (1, .rslc 1 (iz outer) none), (1, .int .i64 (i : Int)), (0, .rptr (nd t i).cv), (0, .rslc 1 (iz (JY t i)) none), (1, .int .i64 (k : Int))] 227) (hp := fun _ => [.dead, .dead, .dead]) (μ := fun k => outer.length - k) 0 (by omega) ?_ rfl ?_
            · simp [forget, gp, Tr.row, Nd.cv]
            intro k hk
            by_cases hk2 : k < outer.length
            · have f1 : ((k : Int) < (outer.length : Int)) = True := Jn
              have hgk := JR hk2
              have hok := hmi hb (outer.getD k 0) (by rw [Gj, Gl hk2]; exact Gn hk2)
              generalize outer.getD k 0 = y at hgk hok
              have hH := hHas y
              rw [hok] at hH
              simp (config := {implicitDefEqProofs := false}) only [go_sem, hil, f1, hgk]
              refine ⟨by omega, ?_⟩
              refine JX hH ?_
              simp (config := {implicitDefEqProofs := false}) only [go_sem, Gb]
              exact ⟨Ji, k + 1, by omega, by omega, by simp [forget, Tr.row, Nd.cv]⟩
            have f1 : ((k : Int) < (outer.length : Int)) = False := Jm
            simp (config := {implicitDefEqProofs := false}) only [go_sem, hil, f1, Nd.cv, kbN, e3, Gb, Gd]
            first
              | exact ⟨Ji, i + 1, by omega, by omega, fun Q => JaC [0, 1] rfl (by simp [forget, JH, ren, Jp, Tr.row]) rfl⟩
              | (have hone := mean_one g hE hlt h3
                 rw [← List.take_length (l := JY t i)] at hone
                 have hU := nUses g ht (m : Int)
                 rw [if_neg (show ¬ (Xo t o).2 ≠ 0 by simp [hE]), Gf, hmd, Jaf.2 ⟨by omega, by omega⟩, if_pos (by rfl)] at hU
                 have hHm := hHas (m : Int)
                 rw [hms] at hHm
                 have hul : (usesL (ofL t o) (m : Int)).length ≤ 100000 := by have h : (usesL (ofL t o) (m : Int)).length ≤ (ofL t o).length := JeJ; rw [Qf] at h; omega
                 have hHu := refHas3 (usesL (ofL t o) (m : Int)) (i : Int) hul
                 have hmu : (usesL (ofL t o) (m : Int)).contains (i : Int) = true := by
                   rw [Gg]
                   exact List.mem_map.2 ⟨i, Gc.2 ⟨Gq.2 (by rw [Qf]; exact hlt), by rw [ofL_get hlt, hm]; simp⟩, rfl⟩
                 rw [hmu] at hHu
                 rw [hm] at hgo
                 have e11 : (((1 : Nat) : Int) != 1) = false := rfl
                 generalize JY t i = inner at *
                 refine Jz (I := fun j : Nat => j ≤ inner.length) (inv := fun j => gp [(2, .rptr t.row), (2, .rptr [.rslc 1 (iz (ofL t o)) none]), (2, .int .i64 (d : Int)), (1, .rslc 1 (iz outer) none), (1, .int .i64 (i : Int)), (0, .rptr (nd t i).cv), (0, .rslc 1 (iz inner) none), (2, .int .i64 (cntT t (nd t i).text inner j : Int)), (0, .int .i64 (j : Int))] 225) (hp := fun _ => [.dead, .dead, .dead]) (μ := fun j => inner.length - j) 0 (by omega) ?_ rfl ?_
                 · simp [forget, gp, Tr.row, Nd.cv, cntT]
                 intro j hj
                 by_cases hj2 : j < inner.length
                 · have f2 : ((j : Int) < (inner.length : Int)) = True := Jn
                   have hgj := JR hj2
                   have hxj := hin (inner.getD j 0) (by rw [Gj, Gl hj2]; exact Gn hj2)
                   have hct := cntT_succ (t := t) (s := (nd t i).text) hj2
                   generalize inner.getD j 0 = y at hgj hxj hct
                   obtain ⟨y, rfl⟩ : ∃ y' : Nat, y = y' := ⟨y.toNat, by omega⟩
                   rw [Gf] at hct
                   have hgy := Ke (t := t) (i := y) (by omega)
                   have hcl := cntT_le (t := t) (s := (nd t i).text) (l := inner) (j := j)
                   simp (config := {implicitDefEqProofs := false}) only [go_sem, hil2, f2]
                   refine JS JD (by decide) ?_
                   cases hbq : (nd t y).text == (nd t i).text with
                   | false =>
                     rw [hbq, if_neg (by simp), Nat.add_zero] at hct
                     simp (config := {implicitDefEqProofs := false}) only [go_sem, hil2, hgj, Jb, hgy, Nd.cv, S_beq, hbq, Tr.row]
                     exact ⟨by omega, by omega, Ji, j + 1, by omega, by omega, by simp [forget, Tr.row, Nd.cv, hct]⟩
                   | true =>
                     rw [hbq, if_pos rfl] at hct
                     simp (config := {implicitDefEqProofs := false}) only [go_sem, hil2, hgj, Jb, hgy, Nd.cv, S_beq, hbq, Tr.row]
                     exact ⟨by omega, by omega, Ji, Ji, j + 1, by omega, by omega, by simp [forget, Tr.row, Nd.cv, hct]⟩
                 · have f2 : ((j : Int) < (inner.length : Int)) = False := Jm
                   obtain rfl : j = inner.length := by omega
                   rw [show cntT t (nd t i).text inner inner.length = 1 from hone]
                   simp (config := {implicitDefEqProofs := false}) only [go_sem, hil2, f2]
                   refine JS JD (by decide) ?_
                   simp (config := {implicitDefEqProofs := false}) only [go_sem, Tr.row]
                   refine JJ (.inl rfl) hCp ?_
                   simp (config := {implicitDefEqProofs := false}) only [go_sem, hol, hgo, Tr.cv, Tr.row]
                   refine ⟨by omega, ?_⟩
                   refine JJ (.inl rfl) hU ?_
                   simp (config := {implicitDefEqProofs := false}) only [go_sem, e11, hol, hgo]
                   refine ⟨by omega, ?_⟩
                   refine JQ (gok rfl) hHm ?_
                   simp (config := {implicitDefEqProofs := false}) only [go_sem, Gb, e01]
                   refine JQ (gok rfl) hHu ?_
                   simp (config := {implicitDefEqProofs := false}) only [go_sem, Gb]
                   exact ⟨Ji, i + 1, by omega, by omega, fun Q => JaC [0, 1] rfl (by simp [forget, JH, ren, Jp, Tr.row]) rfl⟩)
    · have d1 : ((i : Int) < (t.nodes.length : Int)) = False := Jm
      simp (config := {implicitDefEqProofs := false}) only [go_sem, Jb, d1, Tr.row]
      refine JX Jgc ?_
      simp (config := {implicitDefEqProofs := false}) only [go_sem]
end
theorem Jf0 (t:Tr) (p:Int) (hVd:Fn Ga 33 [t.cv] (.bool false)):Fn Ga 7 [t.cv,.int .u8 p] (.bool true):=by
 refine Ja c7_ok rfl rfl fun N=>?_
 simp -implicitDefEqProofs only[c7,go_sem,Tr.cv,Tr.row]
 refine JX hVd ?_
 simp -implicitDefEqProofs only[go_sem,Gd]
 refine JX Jgc ?_
 simp -implicitDefEqProofs only[go_sem]
theorem meantAll (t:Tr) (ty:t.Ty) (p:Int) (hp:InR .u8 p):Fn Ga 7 [t.cv,.int .u8 p] (.bool true):=by
 cases hv:YU t with
 |true=>exact Jf0 t p (lawValidV t hv)
 |false=>
  have ht:=ty.fit3 hv
  by_cases h:chk t=0
  ·obtain ⟨o,g⟩:=(Jda t).1 h
   have hV:=lawValidG g ht hv
   by_cases hE:(Xo t o).2=0
   ·rw[show ((Xo t o).2 == 0)=true by simp[hE]]at hV
    exact meantGood g ht hE hV p hp
   ·rw[show ((Xo t o).2 == 0)=false by simpa using hE]at hV
    exact Jf0 t p hV
  ·exact Jf0 t p (lawValidE t ht hv h)
end
end Go.Cm
end
end
