/-
  A part of the proof. Conditions: none.
-/
import Derived.Test.YtaiboeciecfgoaaGreatDoorRA5
import Derived.Test.YtaiboeciecfgoaaGreatDoorRA6
set_option linter.unusedSimpArgs false
set_option linter.unusedVariables false
noncomputable section
section
namespace Go.Cm
def nrmN {α:Type}(n:Nat) (k:Nat→α):α:=Nat.rec (motive:=fun _=>α) (k 0) (fun j _=>k (Nat.succ j)) n
theorem nrmN_eq {α:Type}(n:Nat) (k:Nat→α):nrmN n k=k n:=by cases n <;> rfl
def nrmI {α:Type}(n:Int) (k:Int→α):α:=Int.rec (motive:=fun _=>α) (fun m=>nrmN m fun m=>k (Int.ofNat m)) (fun m=>nrmN m fun m=>k (Int.negSucc m)) n
theorem nrmI_eq {α:Type}(n:Int) (k:Int→α):nrmI n k=k n:=by
 cases n with
 |ofNat m=>exact nrmN_eq m fun m=>k (Int.ofNat m)
 |negSucc m=>exact nrmN_eq m fun m=>k (Int.negSucc m)
def nrmL {α β:Type}(l:List β):(List β→α)→α:=List.rec (motive:=fun _=>(List β→α)→α) (fun k=>k []) (fun a _ ih k=>ih fun l=>k (a::l)) l
theorem nrmL_eq {α β:Type}:∀ (l:List β) (k:List β→α),nrmL l k=k l
 |[],_=>rfl
 |a::l,k=>nrmL_eq l fun l=>k (a::l)
def nrmV {α:Type}(c:CV) (k:CV→α):α:=match c with
 |.int kd n=>nrmI n fun n=>k (.int kd n)
 |.str s=>nrmL s.data.toList fun l=>k (.str ⟨⟨l⟩⟩)
 |c=>k c
theorem nrmV_eq {α:Type}(c:CV) (k:CV→α):nrmV c k=k c:=by
 cases c
 case int kd n=>exact nrmI_eq n fun n=>k (.int kd n)
 case str s=>exact nrmL_eq s.data.toList fun l=>k (.str ⟨⟨l⟩⟩)
 all_goals rfl
def nrmA {α:Type}(l:List CV):(List CV→α)→α:=List.rec (motive:=fun _=>(List CV→α)→α) (fun k=>k []) (fun a _ ih k=>nrmV a fun a=>ih fun l=>k (a::l)) l
theorem nrmA_eq {α:Type}:∀ (l:List CV) (k:List CV→α),nrmA l k=k l
 |[],_=>rfl
 |a::l,k=>by
  show nrmV a (fun a=>nrmA l fun l=>k (a::l))=k (a::l)
  rw[nrmV_eq,nrmA_eq]
def yfnC (tb:BT YE) (f:Nat) (args:List CV):Option CV:=cond (Jm args) (match yfn tb 3000 f args with
 |some v=>cond v.closed (some v) none
 |none=>none) none
def Jgm (tb:BT YE) (f:Nat) (args:List CV):Option CV:=nrmA args fun args=>yfnC tb f args
theorem YB {P:Program}{tb:BT YE}(ht:tb.All (JfL P)) (hm:P.follows .mixedOrders=true) {f:Nat}(hf:FnOk P f):JfL P f (.nat (Jgm tb f)):=by
 refine ⟨hf,fun args v h=>?_⟩
 unfold Jgm at h
 rw[nrmA_eq]at h
 unfold yfnC at h
 obtain ⟨h1,h2⟩:=cnd h
 split at h2
 ·rename_i v' hv
  obtain ⟨h3,h4⟩:=cnd h2
  simp only[Option.some.injEq]at h4
  subst h4
  exact Qb ht hm hv h1 h3
 ·cases h2
def lookF (l:List (List CV×CV)) (args:List CV):Option CV:=List.rec (motive:=fun _=>Option CV) none (fun p _ ih=>cond (JcB p.1 args) (some p.2) ih) l
theorem lookF_ok {P:Program}{f:Nat}:∀ (l:List (List CV×CV)),(∀ p∈l,Fn P f p.1 p.2)→∀ args v,lookF l args=some v→Fn P f args v
 |[],_,_,_,h=>by cases h
 |p::l,hl,args,v,h=>by
  have h:cond (JcB p.1 args) (some p.2) (lookF l args)=some v:=h
  cases hc:JcB p.1 args with
  |true=>
   rw[hc]at h
   simp only[cond_true,Option.some.injEq]at h
   subst h
   rw[← Qi _ _ hc]
   exact hl p (by simp)
  |false=>
   rw[hc]at h
   exact lookF_ok l (fun q hq=>hl q (by simp[hq])) args v h
theorem Jdd {P:Program}{f:Nat}(hf:FnOk P f) (l:List (List CV×CV)) (hl:∀ p∈l,Fn P f p.1 p.2):JfL P f (.nat (lookF l)):=⟨hf,lookF_ok l hl⟩
theorem JbT {P:Program}{f:Nat}:∀ p∈([]:List (List CV×CV)),Fn P f p.1 p.2:=fun _ h=>by cases h
theorem J7 {P:Program}{f:Nat}{a:List CV}{v:CV}{l:List (List CV×CV)}(h:Fn P f a v) (hl:∀ p∈l,Fn P f p.1 p.2):∀ p∈(a,v)::l,Fn P f p.1 p.2:=by
 intro p hp
 rcases List.mem_cons.1 hp with rfl | hp
 ·exact h
 ·exact hl p hp
theorem Jbl {P:Program}{f:Nat}{F:IFunc}{fl:List Bool}(hf:FnOk P f) (hF:Je P f=some F) (hl:Yn F.body fl=true):JfL P f (.code (low F.body fl).1 F.ntmps F.results):=⟨hf,F,hF,Q4 _ _ hl,rfl,rfl⟩
theorem QD:∀ (c:ICode),LowR c c
 |.skip=>.skip
 |.reg _=>.reg
 |.dreg _ _=>.dreg
 |.seq a b=>.seq (QD a) (QD b)
 |.cond _ a b=>.cond (QD a) (QD b)
 |.block _ a=>.block (QD a)
 |.loop a=>.loop (QD a)
 |.rfunc _ _ a b=>.rfunc (QD a) (QD b)
 |.exit _=>.exit
 |.ret=>.ret
 |.bad=>.bad
theorem JD {P:Program}{f:Nat}{F:IFunc}(hf:FnOk P f) (hF:Je P f=some F):JfL P f (.code F.body F.ntmps F.results):=⟨hf,F,hF,QD _,rfl,rfl⟩
theorem Jda {P:Program}{f:Nat}{F:IFunc}(hf:FnOk P f) (hF:Je P f=some F):JfL P f (.pure F.body F.ntmps F.results):=⟨hf,F,hF,QD _,rfl,rfl⟩
end Go.Cm
namespace Go.Cm
theorem Js {P:Program}(hn:noNG P=true) {f:Nat}{F:IFunc}(hF:Je P f=some F):FnOk P f:=by
 unfold Je at hF
 split at hF
 ·rename_i fn hfn
  split at hF
  ·rename_i c hc
   refine ⟨fn,hfn,by rw[hc]; rfl,?_⟩
   have hm:fn∈P.funcs.toList:=by
    have:=Array.mem_of_getElem? hfn
    simpa using this
   have:=List.all_eq_true.1 hn fn hm
   simpa using this
  ·cases hF
 ·cases hF
def allB (q:Nat→Bool) (n:Nat):Bool:=Nat.rec (motive:=fun _=>Bool) true (fun k ih=>cond (q k) ih false) n
theorem allB_get {q:Nat→Bool}:∀ {n:Nat},allB q n=true→∀ k,k < n→q k=true
 |0,_,k,hk=>by omega
 |n+1,h,k,hk=>by
  have h:cond (q n) (allB q n) false=true:=h
  cases hq:q n with
  |false=>rw[hq]at h; cases h
  |true=>
   rw[hq]at h
   by_cases e:k=n
   ·subst e; exact hq
   ·exact allB_get (n:=n) h k (by omega)
def JeK (r:Option CV) (v:CV):Bool:=match r with
 |some w=>Jdi w v
 |none=>false
theorem Xk {r:Option CV}{v:CV}(h:JeK r v=true):r=some v:=by
 unfold JeK at h
 split at h
 ·rw[JaJ _ _ h]
 ·cases h
end Go.Cm
end
end
