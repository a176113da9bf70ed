/-
  A part of the proof. Conditions: none.
-/
import Derived.Test.YtdnnimemociklaaGreatDoorRows
import Derived.Test.YtdnnimemociklaaGreatDoorYP3
import Derived.ProofKit
import Derived.LaidMore
import Derived.Lib.LaidTab
import Derived.Stop.Joined
import Derived.SevenTiedAt
set_option linter.unusedSimpArgs false
set_option linter.unusedVariables false
open Go.Proofs.Tryz renaming prog->Ga
open List renaming mem_cons->Gc,cons_append->Gd,nil_append->Gf
open Option.some renaming inj->Gb
noncomputable section
section
open Go.Proofs
set_option maxRecDepth 100000
namespace Go.Cm
variable {d:Nat}
section
variable {P:Program}
theorem fits_struct5{t:TypeId}{f0 f1 f2 f3 f4:Field}{l:Lu}(ht:P.underlying t=some (.struct #[f0,f1,f2,f3,f4]))(h:fits P (d+1) t l):∃a b c e f,l=a++(b++(c++(e++f)))/\fits P d f0.type a/\fits P d f1.type b/\fits P d f2.type c/\fits P d f3.type e/\fits P d f4.type f:=by
 simp only[fits,ht]at h;obtain⟨ls,rfl,hl,hf⟩:=h
 match ls,hl with
 |[a,b,c,e,f],_=>exact⟨a,b,c,e,f,sM,hf 0 f0 a rfl rfl,hf 1 f1 b rfl rfl,hf 2 f2 c rfl rfl,hf 3 f3 e rfl rfl,hf 4 f4 f rfl rfl⟩
end
theorem ints_of{els:LQ}(h:∀x∈els,fits Ga d 3 x):∃l:Lx,els=iz l/\∀i∈l,InR .i64 i:=by
 induction els with
 |nil=>exact⟨[],rfl,sM⟩
 |cons e els ih=>
  obtain⟨x,rfl,hx⟩:=fits_int Tryz.underlying3 (h e sM);obtain⟨l,rfl,hl⟩:=ih λy hy=>h y (by simp[hy])
  exact⟨x::l,rfl,λi hi=>by
   rcases Gc.1 hi with rfl|hi
   ·exact hx
   ·exact hl i hi⟩
theorem node_of{l:Lu}(h:fits Ga (d+3) 60 l):∃x:Nd,l=x.cv/\x.Ty:=by
 obtain⟨a,b,c,e,f,rfl,h1,h2,h3,h4,h5⟩:=fits_struct5 Tryz.underlying60 h;obtain⟨k,rfl,hk⟩:=fits_int Tryz.underlying5 h1;obtain⟨s,rfl,_⟩:=fits_str Tryz.underlying9 h2;obtain⟨n,rfl,hn⟩:=fits_int Tryz.underlying3 h3;obtain⟨els,rfl,_,Fp⟩:=Jdt Tryz.underlying23 h4;obtain⟨p,rfl,hp⟩:=fits_int Tryz.underlying3 h5;obtain⟨ks,rfl,Bw⟩:=ints_of Fp;have hc:Ga.cellsOf 3=1:=kR;have D7:0<=k/\k<=255:=⟨hk.1,hk.2⟩;refine⟨⟨k.toNat,s.data.toList,n,ks,p⟩,?_,⟨by show k.toNat<256;omega,hn,Bw,hp⟩⟩;simp only[Nd.cv,Gd,Gf,hc];rw[Int.toNat_of_nonneg D7.1]
theorem nodes_of{els:LQ}(h:∀x∈els,fits Ga (d+3) 60 x):∃l:LF,els=ndz l/\∀x∈l,x.Ty:=by
 induction els with
 |nil=>exact⟨[],rfl,sM⟩
 |cons e els ih=>
  obtain⟨x,rfl,hx⟩:=node_of (h e sM);obtain⟨l,rfl,hl⟩:=ih λy hy=>h y (by simp[hy])
  exact⟨x::l,rfl,λi hi=>by
   rcases Gc.1 hi with rfl|hi
   ·exact hx
   ·exact hl i hi⟩
theorem tree_of{c:CV}(h:JaN Ga (d+5) 25 c):∃t:Tr,c=t.cv/\t.Ty:=by
 simp only[JaN,Tryz.underlying25]at h;obtain⟨l,rfl,h⟩:=h;obtain⟨a,b,rfl,h1,h2⟩:=fits_struct2 Tryz.underlying25 h;obtain⟨els,rfl,_,Fp⟩:=Jdt Tryz.underlying22 h1;obtain⟨its,rfl,_,Fb⟩:=Jdt Tryz.underlying23 h2;obtain⟨ns,rfl,aa⟩:=nodes_of Fp;obtain⟨is,rfl,iF⟩:=ints_of Fb;have hc:Ga.cellsOf 3=1:=kR;have iV:Ga.cellsOf 60=5:=kR;refine⟨⟨ns,is⟩,?_,⟨aa,iF⟩⟩;simp only[Tr.cv,Tr.row,Gd,Gf,hc,iV]
end Go.Cm
namespace Go.Proofs.YtdnnimemociklaaGreatDoor
open Go.Cm
theorem var_cells {P:Program}{w:World}{n:String}{g:Nat}{cs:Array Value}(hg:P.globalNamed n=some g)(h:w.var? P n=some cs):∃e q,w.heap[g]? = some (.cells cs e q):=by
 simp only[World.var?,hg,Option.bind_some]at h
 split at h
 ·rename_i cs' e q hh;simp only[Option.some.injEq]at h;subst h;exact⟨e,q,hh⟩
 ·cases h
def Reads (P:Program)(w:World)(n:String)(d:DataW Unit):Prop:=∃g t cs fuel p,P.globalNamed n=some g/\(P.globals[g]?).map (·.type)=some t/\w.var? P n=some cs/\DataW.trod (λ_=>()) P w 0 (λ_=>true) false fuel t cs.toList=some (d,p)
theorem Jhr {P:Program}{w:World}:∀{l:List (String×DataW Unit)}{ps:List MemPlace},DataW.LaidVars P w l ps->∀n d,(n,d)∈l->Reads P w n d
 |[],_,_,_,_,hm=>by cases hm
 |(n',d')::r,ps,h,n,d,hm=>by
  obtain⟨g,t,cs,fuel,p,q,h1,h2,h3,h4,h5,_⟩:=h;rcases Gc.1 hm with e|e
  ·cases e
   exact⟨g,t,cs,fuel,p,h1,h2,h3,h4⟩
  ·exact Jhr h5 n d e
theorem trod_iface {P:Program}{w:World}{t:TypeId}{ms:Array (String×TypeId)}{fuel:Nat}{l:List Value}{s:String}{x:DataW Unit}{p:List MemPlace}(hu:P.underlying t=some (.interface ms))(h:DataW.trod (λ_=>()) P w 0 (λ_=>true) false fuel t l=some (.iface s x,p)):∃te pe,l=[.iface te pe]:=by
 cases fuel with
 |zero=>simp[DataW.trod]at h
 |succ fuel=>
  unfold DataW.trod at h;rw[hu]at h
  split at h
  all_goals first|exact⟨_,_,rfl⟩|(rename_i hx _;cases hx;done)|(rename_i hx;cases hx;done)|(simp at h;done)|skip
theorem gl_of {W : World}{rt rs : List (String × DataW Unit)}{x1 x2 : DataW Unit}{s1 s2 : String}(FZ : W.ShapedOpen Ga){laid : List (String × DataW Unit)}(hL : laidMetH Ga laid W)(hh : (laid.filter λx => x.2.handleName?.isSome) = [])
    (h1 : ("internal/strconv.uint64pow10", Lib.tabData .u64 Lib.pow10Tab) ∈ laid) (h2 : ("strconv.ErrRange", .iface s1 x1) ∈ laid) (h3 : ("strconv.ErrSyntax", .iface s2 x2) ∈ laid) : GLw W := by
  unfold laidMetH at hL;rw [hh] at hL;simp only at hL;obtain⟨ps, hv, _⟩ := hL;have ED : ∀B, B < 6 -> ∃c e q, W.heap[B]? = some (.cells c e q) := by
    intro B hB;obtain⟨zero, t, hz⟩ : ∃zero t, ((begin Ga (λ_ _ => 0) default).world.heap[B]?).bind Obj.row? = some (zero, t) := by
      have : ((List.range 6).all λB => (((begin Ga (λ_ _ => 0) default).world.heap[B]?).bind Obj.row?).isSome) = true := by kernel_rfl
      rw [List.all_eq_true] at this;have h := this B (by simpa using hB);obtain⟨p, hp⟩ := Option.isSome_iff_exists.1 h;exact⟨p.1, p.2, hp⟩
    obtain⟨cs, hc, _⟩ := FZ.1 B zero t (by have : Ga.globals.size = 6 := (by kernel_rfl);
                                             omega) hz
    exact⟨cs, _, _, hc⟩
  have Sl : ∀{n : String} {s : String} {x : DataW Unit} {g : Nat}, Ga.globalNamed n = some g -> g < gN -> (Ga.globals[g]?).map (·.type) = some 207 -> (n, DataW.iface s x) ∈ laid -> ∃te pe e q, (if g < gN then W.heap[g]? else none) = some (.cells #[.iface te pe] e q) := by
    intro n s x g hg Ab Cj hm;obtain⟨g', t', cs, fuel, p, Me, U5, OB, hd⟩ := Jhr hv _ _ hm;obtain rfl := Gb (hg.symm.trans Me);obtain rfl := Gb (Cj.symm.trans U5);obtain⟨te, pe, hl⟩ := trod_iface Tryz.underlying207 hd;obtain⟨e, q, hb⟩ := var_cells hg OB;have Eo : cs = #[.iface te pe] := by cases cs; simp_all
    subst Eo;exact⟨te, pe, e, q, by rw [if_pos Ab]; exact hb⟩
  refine⟨λB hB => ?_, ?_, λB hB => ?_⟩
  · obtain⟨c, e, q, h⟩ := ED B hB
    exact⟨c, e, q, by simp only [if_pos hB]; exact h⟩
  · obtain⟨g', t', cs, fuel, p, Me, U5, OB, hd⟩ := Jhr hv _ _ h1
    have hg : Ga.globalNamed "internal/strconv.uint64pow10" = some gTab := by kernel_rfl
    obtain rfl := Gb (hg.symm.trans Me);obtain⟨e, q, hb⟩ := var_cells hg OB;obtain⟨n, el, hu, Fq, aW, Mg⟩ : ∃n el, Ga.underlying t' = some (.array n el) /\ Ga.underlying el = some (.int .u64) /\ Ga.cellsOf el = 1 /\ Ga.cellsOf t' = n := by
      have Cj : (Ga.globals[gTab]?).map (·.type) = some 273 := by kernel_rfl
      obtain rfl := Gb (Cj.symm.trans U5);exact⟨_, _, Tryz.underlying273, Tryz.underlying197, by kernel_rfl, by kernel_rfl⟩
    have Eo := Lib.cells_of_tab hu Fq aW Mg hd;refine⟨e, q, ?_⟩;show (if gTab < gN then W.heap[gTab]? else none) = _;rw [if_pos (by decide), hb, <-Eo]
  · simp only [gErr, Gc, List.not_mem_nil, or_false] at hB
    rcases hB with rfl | rfl
    · exact Sl (n := "strconv.ErrSyntax") (by kernel_rfl) (by decide) (by kernel_rfl) h3
    · exact Sl (n := "strconv.ErrRange") (by kernel_rfl) (by decide) (by kernel_rfl) h2
section
variable {H:Type}{enc:TypeId×Value->H}
theorem JhH {C:Checked}{os:Os}{f:FuncId}{fn:Func}{s:ChangeSpec}{apart fresh Dn again:Bool}{X:World->Prop}
  (hX:∀(w w':World),w.heap=w'.heap->X w->X w')
  (own:ownKnob C.prog.godebug=none) (started:os.Started) (noInit:C.prog.inits.idxOf? f=none) (Bq:C.prog.funcs[f]? = some fn)
  (witness:∃(w:World) (tape:Tape) (i:Input),w.os=os/\(w.forCall tape i).Shaped C.prog/\i.vars=[]/\Input.okWide C.prog (w.forCall tape i) .any w.heap.size f i/\
   ((s.pre enc C.prog fn [] apart (w.forCall tape i).memory i.args/\X (w.forCall tape i).memory)/\sizedMet enc C.prog fn (OpenSpec.ofChange s) apart (w.forCall tape i).memory i.args)/\({}:Assume).holds C.prog (lone (Frame.enter C.prog f i.args .normal) [] (w.forCall tape i)))
  (contract:∀(W:World) (base:Nat) (args:Array Value) (ds gs:List (DataW H)) (before:List MemPlace),
   (∀(j:Nat) t v,fn.params[j]? = some t->args[j]? = some v->Value.okWide C.prog W .any base t v)->
   DataW.Whole enc C.prog fn.params.toList s.vars apart W args.toList ds gs before->X W->W.ShapedOpen C.prog->
   Calls C.prog f args W λe W'=>∃v,e=.returned v/\s.post enc C.prog fn apart fresh Dn again W args v W') :
  ReturnsInHanded {} C os f .any (λw args=>(s.pre enc C.prog fn [] apart w args/\X w)/\sizedMet enc C.prog fn (OpenSpec.ofChange s) apart w args) (s.post enc C.prog fn apart fresh Dn again):=by
 refine returnsInHanded_of_calls own started noInit witness λw tape i _ FZ _ Ao Bi _=>?_
 obtain⟨_,_,_,fn',aI,_,_,_,_,FX⟩:=Ao;obtain rfl:=Gb (aI.symm.trans Bq);obtain⟨⟨⟨ds,gs,before,hw,_⟩,hx⟩,_⟩:=Bi;have UU:=DataW.Whole.of_heap (w':=w.forCall tape i) (by rfl) hw;have Aw:X (w.forCall tape i):=hX _ _ (by rfl) hx;refine(contract (w.forCall tape i) w.heap.size i.args ds gs before FX UU Aw FZ).mono λe W' ⟨v,he,hp⟩=>?_
 subst he;exact ChangeSpec.post_blind hp
end
theorem ownK:ownKnob Ga.godebug=none:=by kernel_rfl
theorem ty_laid:laidOutB Ga=true:=by kernel_rfl
theorem ty_maps:mapsRowed Ga=true:=by kernel_rfl
theorem ty_full:((List.range Ga.types.size).all λt=>match Ga.underlying t with|some (.slice e)=>decide (0<Ga.cellsOf e)|_=>true)=true:=by kernel_rfl
end Go.Proofs.YtdnnimemociklaaGreatDoor
end
end
