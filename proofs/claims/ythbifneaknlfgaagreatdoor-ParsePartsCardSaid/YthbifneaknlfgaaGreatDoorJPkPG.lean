/-
  A part of the proof. Conditions: none.
-/
import Derived.Test.YthbifneaknlfgaaGreatDoorJPkPF
set_option linter.unusedSimpArgs false
set_option linter.unusedVariables false
open List renaming length_cons→Ga,length_nil→Gb,getD_cons_zero→Gc,length_append→Gd
noncomputable section
section
set_option maxRecDepth 100000
set_option maxHeartbeats 4000000
open Go.Proofs Go.RowKit
namespace Go.Cm
section
def wordsKV:List (CV×CV):=[(.int .u8 21,S (wrd 21)),(.int .u8 22,S (wrd 22)),(.int .u8 23,S (wrd 23)),(.int .u8 24,S (wrd 24)),(.int .u8 25,S (wrd 25))]
theorem wordsC {E:Env}{H:List CObj}:CallsC Tryz.prog E 117 [] H fun v H'=>v=.map H.length∧H'=H++[.map wordsKV]:=by
 refine QW c117_ok fun N=>?_
 simp -implicitDefEqProofs only[c117,go_sem]
 rfl
theorem find_word:∀ k:Nat,21≤k→k≤25→∃ i,QP .int (.int .u8 k) wordsKV 0=some (some (i,S (wrd k)))
 |21,_,_=>⟨0,rfl⟩ | 22,_,_=>⟨1,rfl⟩ | 23,_,_=>⟨2,rfl⟩ | 24,_,_=>⟨3,rfl⟩ | 25,_,_=>⟨4,rfl⟩
 |k+26,_,h=>absurd h (by omega)
 |0,h,_ | 1,h,_ | 2,h,_ | 3,h,_ | 4,h,_ | 5,h,_ | 6,h,_ | 7,h,_ | 8,h,_ | 9,h,_ | 10,h,_ | 11,h,_ | 12,h,_ | 13,h,_ | 14,h,_ | 15,h,_ | 16,h,_ | 17,h,_ | 18,h,_ | 19,h,_ | 20,h,_=>absurd h (by decide)
theorem opsKV_frz {id z:Nat}{els:List (List CV)}:(J6.map fun p=>(frz id z els p.1,frz id z els p.2))=J6:=rfl
section
variable {P:Program}{E:Env}{H:List CObj}{T:List CV}{kvs:List (CV×CV)}{id:Nat}
theorem hat_get {H H2:List CObj}{id:Nat}(h:hat H2 (id+1)=hat H (id+1)):H2[id]? = H[id]?:=by simpa [hat]using h
theorem hs_fM {d:Option Nat}{f:Nat}{ags:List IArg}{al:Nat→List CV}{v:CV}(hid:H[id]? = some (.map kvs)) (hcall:FnM P kvs f al v) (ha:ags.map (JM T)=al id):HS P E ⟨d,.call f ags,none⟩ T H v H (.on [id+1],.on []):=by
 refine ⟨fun _ _=>rfl,fun T2 H2 hag hx=>⟨H2,fun y hy=>(by cases hy),fun _ _=>rfl,fun _ _ _ _ _ hok=>?_⟩⟩
 have hH:=hat_get (hx (id+1) (by simp[Foot.has]))
 have hT:ags.map (JM T)=ags.map (JM T2):=KM (Jf hag).2
 refine YM (.inl rfl) (by rw[← hT,ha]; exact hcall E H2 id (hH.trans hid)) ?_
 rintro v2 H3 ⟨rfl,rfl⟩
 exact hok
theorem hs_lk {d:Option Nat}{tk:TK}{zero:CV}{ok:Bool}{m k:IArg}{c:Cond}{x:CV}(hm:JM T m=.map id) (he:exec (.lookup tk zero ok m k) T H=some (c,x,H)) (hc:c.holds):HS P E ⟨d,.lookup tk zero ok m k,none⟩ T H x H (.on [id+1],.on []):=by
 refine ⟨fun _ _=>rfl,fun T2 H2 hag hx=>⟨H2,fun y hy=>(by cases hy),fun _ _=>rfl,fun _ _ _ _ _ hok=>?_⟩⟩
 have hH:=hat_get (hx (id+1) (by simp[Foot.has]))
 have hl:JM T m=JM T2 m∧JM T k=JM T2 k:=⟨Jp (Jf (Jf hag).2).1,Jp (Jf (Jf hag).2).2⟩
 have he2:exec (.lookup tk zero ok m k) T2 H2=some (c,x,H2):=by
  simp only[exec,hm]at he
  simp only[exec,← hl.1,← hl.2,hm,hH]
  split at he
  ·rename_i hk
   rw[if_pos hk]
   split at he
   ·rename_i h1
    split at he
    ·rename_i h2
     simp only[Option.some.injEq,Prod.mk.injEq]at he
     obtain ⟨rfl,rfl,_⟩:=he
     simp[h1,h2]
    ·rename_i h2
     simp only[Option.some.injEq,Prod.mk.injEq]at he
     obtain ⟨rfl,rfl,_⟩:=he
     simp[h1,h2]
    ·cases he
   ·cases he
  ·cases he
 exact Jch (.inl rfl) he2 hc hok
end
theorem exprMw (t:Tr) (x:Nd) (h:KO t x) (hk:21≤x.k∧x.k≤25):FnM Tryz.prog J6 83 (fun id=>[prn t id,.agg x.cv]) (S (Jt (Jj t.nodes) (Jh t.nodes) x)):=by
 have h2:x.kids.length=1:=h.shp.one (by omega)
 obtain ⟨j,hf⟩:=find_word x.k hk.1 hk.2
 have e:Jt (Jj t.nodes) (Jh t.nodes) x=wrd x.k++[40]++Jh t.nodes (kid x 0)++[41]:=by
  unfold Jt
  rw[if_neg (by omega),if_neg (by omega),if_neg (by omega),if_neg (by omega),if_neg (by omega),if_neg (by omega),if_neg (by omega),if_pos hk]
 rw[e]
 clear e
 have hwl:=wrd_len x.k
 have hn1:∀ m:Nat,m < 21∨25 < m→((x.k:Int) == (m:Int))=false:=fun m h=>kb (by omega)
 have n1:((x.k:Int) == 1)=false:=hn1 1 (by omega)
 have n2:((x.k:Int) == 2)=false:=hn1 2 (by omega)
 have n3:((x.k:Int) == 3)=false:=hn1 3 (by omega)
 have n18:((x.k:Int) == 18)=false:=hn1 18 (by omega)
 have n19:((x.k:Int) == 19)=false:=hn1 19 (by omega)
 have n20:((x.k:Int) == 20)=false:=hn1 20 (by omega)
 have n26:((x.k:Int) == 26)=false:=hn1 26 (by omega)
 have n27:((x.k:Int) == 27)=false:=hn1 27 (by omega)
 have n28:((x.k:Int) == 28)=false:=hn1 28 (by omega)
 have n29:((x.k:Int) == 29)=false:=hn1 29 (by omega)
 clear hn1
 obtain ⟨k,text,n,kids,pl⟩:=x
 dsimp only at *
 obtain ⟨a,rfl⟩:∃ a,kids=[a]:=by
  match kids,h2 with
  |[a],_=>exact ⟨_,rfl⟩
 have sa:=h.show_ a (by simp)
 have la:=h.len a (by simp)
 unfold KE at sa
 simp only[kid,Gc]
 generalize Jh t.nodes a=u at *
 generalize wrd k=wd at *
 refine JD c83_ok (Jv t _ rfl) rfl (by simp only[Ga,Gb]; decide) fun N=>?_
 simp -implicitDefEqProofs only[c83,go_sem,prn,Nd.cv,Int.cast_ofNat_Int,iz1,n1,n2,n3,n18,n19,n20,n26,n27,n28,n29]
 refine Jk (id:=2) (z:=5) (els:=[[.int .u8 k,S text,.int .i64 n,.rslc 1 [[.int .i64 a]] none,.int .i64 pl]]) rfl rfl ?_
 simp only[go_sem,Kt,KR,frz,Qo,List.map_cons,List.map_nil,opsKV_frz]
 refine Yb [(.on [0],.on [0,4]),Foot.no,Foot.no,(.on [4],.on []),Foot.no,(.on [2],.on []),Foot.no,Foot.no,Foot.no,(.on [1],.on []),Foot.no,Foot.no,Foot.no] JF (by decide +kernel) ?_
 refine ⟨_,_,hs_new (mk:=.map) rfl (fun H2=>wordsC),?_⟩
 refine ⟨_,_,Qi rfl rfl (by simp[Cond.holds]),?_⟩
 refine ⟨_,_,Qi rfl rfl (by simp[Cond.holds]),?_⟩
 refine ⟨S wd,_,hs_lk (id:=3) (c:=.tt) rfl (by simp -implicitDefEqProofs only[go_sem,hf]) trivial,?_⟩
 refine ⟨S (wd++[40]),_,Qi (c:=.ile ((wd.length+1:Nat):Int) 9223372036854775807) rfl (by simp -implicitDefEqProofs only[go_sem]) (by simp only[Cond.holds]; omega),?_⟩
 refine ⟨_,_,Je3 (id:=1) (i:=0) (off:=0) rfl rfl (by simp[Cond.holds]),?_⟩
 refine ⟨_,_,Qi rfl rfl trivial,?_⟩
 refine ⟨_,_,Qi rfl rfl (by simp[Cond.holds]),?_⟩
 refine ⟨_,_,Qi rfl rfl (by simp[Cond.holds]),?_⟩
 refine ⟨_,_,hs_fM (id:=0) rfl sa rfl,?_⟩
 refine ⟨S (wd++[40]++u),_,Qi (c:=.ile (((wd++[40]).length+u.length:Nat):Int) 9223372036854775807) rfl (by simp -implicitDefEqProofs only[go_sem]) (by simp only[Cond.holds]; simp only[Gd,Ga,Gb]; omega),?_⟩
 refine ⟨S (wd++[40]++u++[41]),_,Qi (c:=.ile (((wd++[40]++u).length+1:Nat):Int) 9223372036854775807) rfl (by simp -implicitDefEqProofs only[go_sem]) (by simp only[Cond.holds]; simp only[Gd,Ga,Gb]; omega),?_⟩
 refine ⟨_,_,Qi rfl rfl trivial,?_⟩
 simp only[vdf,Jbh]
 simp -implicitDefEqProofs only[go_sem]
theorem partsM (t:Tr) (x:Nd) (h:KO t x) (ho:¬ (4≤x.k∧x.k≤17)) :
  FnM Tryz.prog J6 (if x.k≤29 then 83 else if x.k≤48 then 84 else 85) (fun id=>[prn t id,.agg x.cv]) (S (Jt (Jj t.nodes) (Jh t.nodes) x)):=by
 have hk:=h.shp.kind
 by_cases c1:x.k≤29
 ·rw[if_pos c1]
  rcases (show x.k=1∨x.k=2∨x.k=3∨x.k=18∨x.k=19∨x.k=20∨(21≤x.k∧x.k≤25)∨x.k=26∨x.k=27∨x.k=28∨x.k=29 by omega) with e | e | e | e | e | e | e | e | e | e | e
  ·exact exprM1 t x h e
  ·exact exprM2 t x h e
  ·exact exprM3 t x h e
  ·exact exprM18 t x h e
  ·exact exprM19 t x h e
  ·exact exprM20 t x h e
  ·exact exprMw t x h e
  ·exact exprM26 t x h e
  ·exact exprM27 t x h e
  ·exact exprM28 t x h e
  ·by_cases hd:0 < x.n
   ·exact exprM29a t x h e hd
   ·exact exprM29b t x h e hd
 ·rw[if_neg c1]
  by_cases c2:x.k≤48
  ·rw[if_pos c2]
   rcases (show x.k=40∨x.k=41∨x.k=42∨x.k=43∨x.k=44∨x.k=45∨x.k=46∨x.k=47∨x.k=48 by omega) with e | e | e | e | e | e | e | e | e
   ·exact partM40 t x h e
   ·exact partM41 t x h e
   ·by_cases hd:x.kids=[]
    ·exact partM42a t x h e hd
    ·exact partM42b t x h e hd
   ·exact partM43 t x h e
   ·exact partM44 t x h e
   ·exact partM45 t x h e
   ·exact partM46 t x h e
   ·by_cases hd:x.n≠1
    ·exact partM47a t x h e hd
    ·exact partM47b t x h e hd
   ·have hb:=h.shp.bound e
    rcases hb.2.2 with hd | hd
    ·exact partM48a t x h e hd
    ·by_cases hz:x.n=0
     ·exact partM48b t x h e hd hz
     ·exact partM48c t x h e hd hz
  ·rw[if_neg c2]
   rcases (show x.k=60∨x.k=61∨x.k=62∨x.k=63∨x.k=64∨x.k=65 by omega) with e | e | e | e | e | e
   ·exact itemM60 t x h e
   ·exact itemM61 t x h e
   ·exact itemM62 t x h e
   ·exact itemM63 t x h e
   ·exact itemM64 t x h e
   ·exact itemM65 t x h e
theorem showM (t:Tr) (i:Nat) (hi:i < t.nodes.length) (h:KO t (t.nodes.getD i default)) (he:Jh t.nodes (i:Int)=Jt (Jj t.nodes) (Jh t.nodes) (t.nodes.getD i default)):KE t (i:Int):=by
 have hg:=Ka hi
 unfold KE
 rw[he]
 generalize t.nodes.getD i default=x at *
 by_cases ho:4≤x.k∧x.k≤17
 ·obtain ⟨j,hf⟩:=find_op x.k ho.1 ho.2
  have h2:x.kids.length=2:=h.shp.two (by omega)
  have e:Jt (Jj t.nodes) (Jh t.nodes) x=opx (Jj t.nodes) (Jh t.nodes) (kid x 0) (lft x.k)++[32]++sgn x.k++[32]++opx (Jj t.nodes) (Jh t.nodes) (kid x 1) (rgt x.k):=by
   unfold Jt
   rw[if_neg (by omega),if_neg (by omega),if_neg (by omega),if_pos ho]
  rw[e]
  clear e he
  have hsl:=sgn_len x.k
  obtain ⟨k,text,n,kids,pl⟩:=x
  dsimp only at *
  obtain ⟨a,b,rfl⟩:∃ a b,kids=[a,b]:=by
   match kids,h2 with
   |[a,b],_=>exact ⟨_,_,rfl⟩
  have oa:=h.opM (k:=a) (by simp) (lft k)
  have ob:=h.opM (k:=b) (by simp) (rgt k)
  simp only[kid,Gc,List.getD_cons_succ]
  generalize opx (Jj t.nodes) (Jh t.nodes) a (lft k)=u at *
  generalize opx (Jj t.nodes) (Jh t.nodes) b (rgt k)=v at *
  simp only[opV]at hf
  generalize lft k=r1 at *
  generalize rgt k=r2 at *
  generalize sgn k=sg at *
  generalize rnk k=rk at *
  have lo:=oa.2
  have lb:=ob.2
  refine JD c38_ok (Jv t _ rfl) rfl (by simp only[Ga,Gb]; decide) fun N=>?_
  simp -implicitDefEqProofs only[c38,go_sem,prn,Ja,hg,Nd.cv,iz2,hf]
  repeat (refine ⟨by first | omega | decide | exact Jm (by omega) (by omega),?_⟩)
  refine JS JF (by decide) ?_
  simp -implicitDefEqProofs only[go_sem,prn]
  repeat (refine ⟨by first | omega | decide | exact Jm (by omega) (by omega),?_⟩)
  refine KN rfl (.inl rfl) oa.1 rfl ?_
  simp -implicitDefEqProofs only[go_sem,prn]
  repeat (refine ⟨by first | omega | decide | exact Jm (by omega) (by omega),?_⟩)
  refine KN rfl (.inl rfl) ob.1 rfl ?_
  simp -implicitDefEqProofs only[go_sem,prn]
  repeat (refine ⟨by first | omega | decide | exact Jm (by omega) (by omega),?_⟩)
  all_goals first | omega | rfl | exact ⟨by omega,rfl⟩
 ·have hf:=find_none x.k ho
  have hp:=partsM t x h ho
  generalize Jt (Jj t.nodes) (Jh t.nodes) x=u at *
  refine JD c38_ok (Jv t _ rfl) rfl (by simp only[Ga,Gb]; decide) fun N=>?_
  obtain ⟨k,text,n,kids,pl⟩:=x
  dsimp only[Nd.cv]at *
  by_cases c1:k≤29
  ·rw[if_pos c1]at hp
   have d1:((k:Int)≤29)=True:=eq_true (by omega)
   simp -implicitDefEqProofs only[c38,go_sem,prn,Ja,hg,Nd.cv,hf,d1]
   repeat (refine ⟨by first | omega | decide | exact Jm (by omega) (by omega),?_⟩)
   refine vr_fM rfl (.inl rfl) hp rfl ?_
   simp -implicitDefEqProofs only[go_sem,prn]
  ·rw[if_neg c1]at hp
   have d1:((k:Int)≤29)=False:=eq_false (by omega)
   by_cases c2:k≤48
   ·rw[if_pos c2]at hp
    have d2:((k:Int)≤48)=True:=eq_true (by omega)
    simp -implicitDefEqProofs only[c38,go_sem,prn,Ja,hg,Nd.cv,hf,d1,d2]
    repeat (refine ⟨by first | omega | decide | exact Jm (by omega) (by omega),?_⟩)
    refine vr_fM rfl (.inl rfl) hp rfl ?_
    simp -implicitDefEqProofs only[go_sem,prn]
   ·rw[if_neg c2]at hp
    have d2:((k:Int)≤48)=False:=eq_false (by omega)
    simp -implicitDefEqProofs only[c38,go_sem,prn,Ja,hg,Nd.cv,hf,d1,d2]
    repeat (refine ⟨by first | omega | decide | exact Jm (by omega) (by omega),?_⟩)
    refine vr_fM rfl (.inl rfl) hp rfl ?_
    simp -implicitDefEqProofs only[go_sem,prn]
theorem GoodT.showOk {t:Tr}{o:List Int}(g:GoodT t o) (ht:t.Fit):∀ i:Nat,i < t.nodes.length→KE t (i:Int):=by
 intro i
 induction i using Nat.strongRecOn with
 |ind i ih=>
  intro hi
  have hx:=ht.nodes _ (List.getElem_mem hi)
  rw[← rowg hi]at hx
  refine showM t i hi ⟨g.shp hi,hx.text,hx.n,hx.kidn,fun k hk=>?_,fun k hk=>?_,fun k hk=>?_⟩ (g.txt hi)
  ·have:=g.kid hi hk; omega
  ·have hr:=g.kid hi hk
   have:=ih k.toNat (by omega) (by omega)
   rw[Int.toNat_of_nonneg hr.1]at this
   exact this
  ·have hr:=g.kid hi hk
   exact g.txt_le ht hr.1 (by omega)
theorem GoodT.showOk' {t:Tr}{o:List Int}(g:GoodT t o) (ht:t.Fit) {k:Int}(h0:0≤k) (h1:k < t.nodes.length):KE t k:=by
 have:=g.showOk ht k.toNat (by omega)
 rw[Int.toNat_of_nonneg h0]at this
 exact this
def limV (s:List UInt8):CV:=if 2500 < s.length then .tup [S [],.int .i64 5] else .tup [S s,.int .i64 0]
theorem Jb6 (s:List UInt8):Fn Tryz.prog 39 [S s] (limV s):=by
 unfold limV
 refine Jc c39_ok rfl (by split <;> rfl) fun N=>?_
 by_cases h:2500 < s.length
 ·have d1:((s.length:Int) > 2500)=True:=eq_true (by omega)
  rw[if_pos h]
  simp -implicitDefEqProofs only[c39,go_sem,d1]
 ·have d1:((s.length:Int) > 2500)=False:=eq_false (by omega)
  rw[if_neg h]
  simp -implicitDefEqProofs only[c39,go_sem,d1]
theorem parseShow (t:Tr) (ht:t.Fit) (n:Int) (hn:InR .i64 n):Fn Tryz.prog 11 [t.cv,.int .i64 n] (if chk t≠0 then .tup [S [],.int .i64 (chk t)] else if inT t n=true then limV (Jh t.nodes n) else .tup [S [],.int .i64 7]):=by
 have hmany:=ht.many
 refine Jc c11_ok rfl (by unfold limV; split; rfl; split; split <;> rfl; rfl) fun N=>?_
 simp -implicitDefEqProofs only[c11,go_sem,Tr.cv,Tr.row]
 refine Jk (id:=0) (z:=2) (els:=[t.row]) rfl rfl ?_
 simp only[go_sem,Kt,KR,frz,Qo,Tr.row]
 refine Jk (id:=1) (z:=1) (els:=[[.int .i64 n]]) rfl rfl ?_
 simp only[go_sem,Kt,KR,frz,Qo,Ga,Gb,List.drop_zero,List.take_succ_cons,List.take_zero]
 by_cases h:chk t=0
 ·obtain ⟨o,g⟩:=(Kq t).1 h
  have hF:=findS t ht [n] (by simp) h g.ord.h
  simp only[List.all_cons,List.all_nil,Bool.and_true]at hF
  rw[if_neg (by simp[h])]
  refine JZ hF ?_
  cases hb:inT t n with
  |false=>
   simp -implicitDefEqProofs only[go_sem]
  |true=>
   have hr:=Jdh.1 hb
   have hs:=g.showOk' ht hr.1 hr.2
   have hL:=Jb6 (Jh t.nodes n)
   unfold KE at hs
   generalize Jh t.nodes n=u at *
   simp -implicitDefEqProofs only[go_sem,if_true]
   refine Yb [Foot.no,(.on [0],.on [0,3]),Foot.no,Foot.no,(.on [3],.on []),Foot.no,Foot.no,Foot.no,Foot.no,Foot.no] JF (by decide +kernel) ?_
   refine ⟨_,_,Qi rfl rfl (by simp[Cond.holds]),?_⟩
   refine ⟨_,_,hs_new (mk:=.map) rfl (fun H2=>Jd2),?_⟩
   refine ⟨_,_,Qi rfl rfl trivial,?_⟩
   refine ⟨_,_,Qi rfl rfl trivial,?_⟩
   refine ⟨_,_,hs_fM (id:=2) rfl hs rfl,?_⟩
   refine ⟨_,_,Jam (.inl rfl) hL,?_⟩
   unfold limV
   by_cases hc:2500 < u.length
   ·rw[if_pos hc]
    refine ⟨_,_,Qi rfl rfl trivial,?_⟩
    refine ⟨_,_,Qi rfl rfl trivial,?_⟩
    refine ⟨_,_,Qi rfl rfl trivial,?_⟩
    refine ⟨_,_,Qi rfl rfl trivial,?_⟩
    simp only[vdf,Jbh]
    simp -implicitDefEqProofs only[go_sem]
   ·rw[if_neg hc]
    refine ⟨_,_,Qi rfl rfl trivial,?_⟩
    refine ⟨_,_,Qi rfl rfl trivial,?_⟩
    refine ⟨_,_,Qi rfl rfl trivial,?_⟩
    refine ⟨_,_,Qi rfl rfl trivial,?_⟩
    simp only[vdf,Jbh]
    simp -implicitDefEqProofs only[go_sem]
 ·have e:(chk t != 0)=true:=by simpa using h
  rw[if_pos h]
  refine JZ (findE t ht [n] h) ?_
  simp -implicitDefEqProofs only[go_sem,e]
end
end Go.Cm
end
end
