/-
  Part of a proof about the package floodgatelaw02 (shortened by a program). Conditions: none.
-/
import Derived.Test.YthbifneaknlfgaaGreatDoorHPkRU
set_option linter.unusedSimpArgs false
set_option linter.unusedVariables false
open List renaming length_take→Gb,length_cons→Gc,length_nil→Gd,map_append→Gg,map_cons→Gh,mem_of_mem_take→Gi,length_drop→Gj,getElem_mem→Gl,map_nil→Gm
open Nat renaming le_trans→Ga
open Int renaming cast_ofNat_Int→Gf,toNat_of_nonneg→Gn
noncomputable section
section
set_option maxRecDepth 100000
set_option maxHeartbeats 4000000
open Go.Proofs
namespace Go.Cm
theorem JaN (e:List UInt8) (l:List (List UInt8)) (x:List UInt8):JL e (l++[x])=JL e l++(x++e):=by simp[JL]
theorem refLoop (t:Tr) (x:Nd) (h:RO t x) (hk:x.k=28):Fn Tryz.prog 55 [t.cv,.agg x.cv] (S (Jf (Jb t.nodes) (Ja t.nodes) x)):=by
 have hf:=h.few
 have hnr:=h.n
 have hl:=h.shp.loop hk
 have hsum:=h.sum
 obtain ⟨k,text,n,kids,pl⟩:=x
 dsimp only at *
 subst hk
 obtain ⟨N,rfl⟩:∃ N:Nat,n=(N:Int):=⟨n.toNat,by omega⟩
 obtain ⟨M,hM⟩:∃ M:Nat,kids.length=M+1:=⟨kids.length-1,by omega⟩
 have hil:(iz kids).length=M+1:=by rw[Jo,hM]
 have e:Jf (Jb t.nodes) (Ja t.nodes) ⟨28,text,(N:Int),kids,pl⟩=[108,111,111,112,40]++Lib.join ((kids.take N).map (Ja t.nodes)) [44,32]++[41,32,119,104,105,108,101,32]++Ja t.nodes (kids.getD N 0)++[32,100,111,32,123,32]++JL [59,32] (((kids.take M).drop (N+1)).map (Ja t.nodes))++[125,32]++Ja t.nodes (kids.getD M 0):=by
  have:M=kids.length-1:=by omega
  subst this
  rfl
 rw[e]
 clear e
 have ma:kids.getD N 0∈kids:=KS (x:=⟨28,text,(N:Int),kids,pl⟩) (i:=N) (by dsimp only; omega)
 have mb:kids.getD M 0∈kids:=KS (x:=⟨28,text,(N:Int),kids,pl⟩) (i:=M) (by dsimp only; omega)
 have ga:(iz kids).getD N []=[.int .i64 (kids.getD N 0)]:=JV (by omega)
 have gb:(iz kids).getD M []=[.int .i64 (kids.getD M 0)]:=JV (by omega)
 have sa:=h.txt _ ma
 have la:=h.len _ ma
 have sb:=h.txt _ mb
 have lb:=h.len _ mb
 have o1:=h.texts (kids.take N) (fun k hk=>Gi hk) (KN _ _) (by rw[Gb]; omega) 44 32
 have l1:=o1.2
 obtain ⟨B,hB0,hBs,hBe,hBl⟩:∃ B:Nat→List UInt8,B 0=[]∧(∀ i,N+1+i < M→B (i+1)=B i++(Ja t.nodes (kids.getD (N+1+i) 0)++[59,32]))∧JL [59,32] (((kids.take M).drop (N+1)).map (Ja t.nodes))=B (M-(N+1))∧∀ i,(B i).length≤30*300004:=by
  refine ⟨fun i=>JL [59,32] (((kids.take (N+1+i)).drop (N+1)).map (Ja t.nodes)),?_,fun i hi=>?_,?_,fun i=>?_⟩
  ·dsimp only
   rw[List.drop_of_length_le (by rw[Gb]; omega)]
   rfl
  ·dsimp only
   rw[← JaN,show N+1+(i+1)=(N+1+i)+1 by omega,Qk (d:=0) (by omega),List.drop_append_of_le_length (by rw[Gb]; omega),Gg]
   rfl
  ·dsimp only
   rw[show N+1+(M-(N+1))=M by omega]
  ·have h1:=Jbq (T:=Ja t.nodes) ((kids.take (N+1+i)).drop (N+1)) 59 32
   have h2:=Ql (T:=Ja t.nodes) (kids.take (N+1+i)) (N+1)
   have h3:=KN (T:=Ja t.nodes) kids (N+1+i)
   exact Ga h1 (Ga h2 (Ga h3 hsum))
 rw[hBe]
 have htx:=h.txt
 have hln:=h.len
 clear h hsum
 unfold J3 at *
 have hM1:((M:Int)+1-1)=(M:Int):=by omega
 have hN1:((N:Int)+1)=((N+1:Nat):Int):=by omega
 generalize Lib.join ((kids.take N).map (Ja t.nodes)) [44,32]=p at *
 generalize kids.getD N 0=a at *
 generalize Ja t.nodes a=ua at *
 generalize kids.getD M 0=b at *
 generalize Ja t.nodes b=ub at *
 refine Jc c55_ok rfl rfl fun N0=>?_
 simp -implicitDefEqProofs only[c55,go_sem,Tr.cv,Tr.row,Nd.cv,hil]
 refine ⟨Jh (by omega) (by omega),?_⟩
 refine Jt (id:=0) (z:=2) (els:=[t.row]) rfl rfl ?_
 simp only[go_sem,frzL,frzH,frz,frzO,Tr.row]
 refine Jt (id:=1) (z:=5) (els:=[Nd.cv ⟨28,text,(N:Int),kids,pl⟩]) rfl rfl ?_
 simp only[go_sem,frzL,frzH,frz,frzO,Tr.row,Nd.cv]
 simp -implicitDefEqProofs only[go_sem,Tr.row,Nd.cv,hil,Kh,Ki,ga,gb,Int.natCast_add,Gf,hM1]
 refine Jm Jn (by decide) ?_
 simp -implicitDefEqProofs only[go_sem,Tr.row,Nd.cv,hil,Kh,Ki,ga,gb]
 repeat (refine ⟨by first | omega | decide | exact Jh (by omega) (by omega),?_⟩)
 refine Jr (.inl rfl) o1.1 ?_
 simp -implicitDefEqProofs only[go_sem,Tr.row,Nd.cv,hil,Kh,Ki,ga,gb]
 repeat (refine ⟨by first | omega | decide | exact Jh (by omega) (by omega),?_⟩)
 refine Jr (.inl rfl) sa ?_
 simp -implicitDefEqProofs only[go_sem,Tr.row,Nd.cv,hil,Kh,Ki,ga,gb]
 repeat (refine ⟨by first | omega | decide | exact Jh (by omega) (by omega),?_⟩)
 refine JI (I:=fun i:Nat=>N+1+i≤M) (inv:=fun i=>gp [(2,.rptr t.row),(0,.rptr (Nd.cv ⟨28,text,(N:Int),kids,pl⟩)),(1,.int .i64 (M:Int)),(0,S ([108,111,111,112,40]++p++[41,32,119,104,105,108,101,32]++ua++[32,100,111,32,123,32]++B i)),(0,.int .i64 ((N+1+i:Nat):Int))] 51) (hp:=fun _=>[.dead,.dead]) (μ:=fun i=>M-i) 0 (by omega) ?_ rfl ?_
 ·simp[forget,gp,Tr.row,Nd.cv,hB0]
 ·intro i hi
  have hb:=hBl i
  by_cases hlt:N+1+i < M
  ·have d1:(((N+1+i:Nat):Int) < (M:Int))=True:=eq_true (by omega)
   have hgi:=JV (l:=kids) (i:=N+1+i) (by omega)
   have hmem:kids.getD (N+1+i) 0∈kids:=KS (x:=⟨28,text,(N:Int),kids,pl⟩) (i:=N+1+i) (by dsimp only; omega)
   have hTk:=htx _ hmem
   have hlk:=hln _ hmem
   have hts:=hBs i hlt
   generalize kids.getD (N+1+i) 0=c at *
   generalize Ja t.nodes c=u at *
   simp -implicitDefEqProofs only[go_sem,hil,d1,Tr.row,Nd.cv]
   refine Jm Jn (by decide) ?_
   simp -implicitDefEqProofs only[go_sem,hil,hgi,Tr.row,Nd.cv]
   repeat (refine ⟨by first | omega | decide | exact Jh (by omega) (by omega),?_⟩)
   refine Jr (.inl rfl) hTk ?_
   simp -implicitDefEqProofs only[go_sem]
   refine ⟨by omega,by omega,Jh (by omega) (by omega),i+1,by omega,by omega,?_⟩
   rw[hts]
   simp[forget,Tr.row,Nd.cv]
   omega
  ·have hie:N+1+i=M:=by omega
   have hie2:M-(N+1)=i:=by omega
   have d1:(((N+1+i:Nat):Int) < (M:Int))=False:=eq_false (by omega)
   rw[hie2]
   simp -implicitDefEqProofs only[go_sem,hil,d1,Tr.row,Nd.cv]
   refine Jm Jn (by decide) ?_
   simp -implicitDefEqProofs only[go_sem,hil,gb,Tr.row,Nd.cv]
   repeat (refine ⟨by first | omega | decide | exact Jh (by omega) (by omega),?_⟩)
   refine Jr (.inl rfl) sb ?_
   simp -implicitDefEqProofs only[go_sem]
   all_goals first | omega | rfl | exact ⟨by omega,by omega,rfl⟩
theorem refOther40 (t:Tr) (x:Nd) (h:RO t x) (hk:x.k=40):Fn Tryz.prog 59 [t.cv,.agg x.cv] (S (Jf (Jb t.nodes) (Ja t.nodes) x)):=by
 have hf:=h.few
 have hnr:=h.n
 have hl:=h.shp.block hk
 have hsum:=h.sum
 obtain ⟨k,text,n,kids,pl⟩:=x
 dsimp only at *
 subst hk
 obtain ⟨N,rfl⟩:∃ N:Nat,n=(N:Int):=⟨n.toNat,by omega⟩
 have hil:(iz kids).length=kids.length:=Jo
 have e:Jf (Jb t.nodes) (Ja t.nodes) ⟨40,text,(N:Int),kids,pl⟩=[123,32]++JL [59,32] ((kids.take N).map (Ja t.nodes))++[103,105,118,101,32]++Lib.join ((kids.drop N).map (Ja t.nodes)) [44,32]++[32,125]:=rfl
 rw[e]
 clear e
 have o1:=h.texts (kids.drop N) (fun k hk=>List.mem_of_mem_drop hk) (Ql _ _) (by rw[Gj]; omega) 44 32
 have l1:=o1.2
 obtain ⟨B,hB0,hBs,hBe,hBl⟩:∃ B:Nat→List UInt8,B 0=[]∧(∀ i,i < N→B (i+1)=B i++(Ja t.nodes (kids.getD i 0)++[59,32]))∧JL [59,32] ((kids.take N).map (Ja t.nodes))=B N∧∀ i,(B i).length≤30*300004:=by
  refine ⟨fun i=>JL [59,32] ((kids.take i).map (Ja t.nodes)),rfl,fun i hi=>?_,rfl,fun i=>?_⟩
  ·dsimp only
   rw[← JaN,Qk (d:=0) (by omega),Gg]
   rfl
  ·have h1:=Jbq (T:=Ja t.nodes) (kids.take i) 59 32
   have h3:=KN (T:=Ja t.nodes) kids i
   exact Ga h1 (Ga h3 hsum)
 rw[hBe]
 have htx:=h.txt
 have hln:=h.len
 clear h hsum
 unfold J3 at *
 generalize Lib.join ((kids.drop N).map (Ja t.nodes)) [44,32]=p at *
 refine Jg c59_ok rfl rfl (by simp only[Gc,Gd]; decide) fun N0=>?_
 simp -implicitDefEqProofs only[c59,go_sem,Tr.cv,Tr.row,Nd.cv,hil,Gf]
 refine ⟨Jh (by omega) (by omega),?_⟩
 refine Jt (id:=0) (z:=2) (els:=[t.row]) rfl rfl ?_
 simp only[go_sem,JdM,Gh,Gm,frzH,frz,frzO,Tr.row]
 refine Jt (id:=1) (z:=5) (els:=[Nd.cv ⟨40,text,(N:Int),kids,pl⟩]) rfl rfl ?_
 simp only[go_sem,JdM,Gh,Gm,frzH,frz,frzO,Tr.row,Nd.cv]
 refine JI (I:=fun i:Nat=>i≤N) (inv:=fun i=>mkT 238 [(2,.rptr t.row),(3,.rptr (Nd.cv ⟨40,text,(N:Int),kids,pl⟩)),(6,S ([123,32]++B i)),(7,.int .i64 (i:Int))]) (hp:=fun _=>[.dead,.dead]) (μ:=fun i=>N-i) 0 (by omega) ?_ rfl ?_
 ·refine JcU ?_
  simp[JcQ,Qs,Tr.row,Nd.cv,hB0]
 ·intro i hi
  have hb:=hBl i
  by_cases hlt:i < N
  ·have d1:((i:Int) < (N:Int))=True:=eq_true (by omega)
   have hgi:=JV (l:=kids) (i:=i) (by omega)
   have hmem:kids.getD i 0∈kids:=KS (x:=⟨40,text,(N:Int),kids,pl⟩) (i:=i) (by dsimp only; omega)
   have hTk:=htx _ hmem
   have hlk:=hln _ hmem
   have hts:=hBs i hlt
   generalize kids.getD i 0=c at *
   generalize Ja t.nodes c=u at *
   simp -implicitDefEqProofs only[go_sem,hil,d1,Tr.row,Nd.cv]
   refine Jm Jn (by decide) ?_
   simp -implicitDefEqProofs only[go_sem,hil,hgi,Tr.row,Nd.cv]
   repeat (refine ⟨by first | omega | decide | exact Jh (by omega) (by omega),?_⟩)
   refine Jr (.inl rfl) hTk ?_
   simp -implicitDefEqProofs only[go_sem]
   refine ⟨by omega,by omega,Jh (by omega) (by omega),i+1,by omega,by omega,?_⟩
   rw[hts]
   refine JcU ?_
   simp[JcQ,Qs,Tr.row,Nd.cv]
  ·have hie:i=N:=by omega
   subst hie
   have d1:((i:Int) < (i:Int))=False:=eq_false (by omega)
   simp -implicitDefEqProofs only[go_sem,hil,d1,Tr.row,Nd.cv]
   refine Jm Jn (by decide) ?_
   simp -implicitDefEqProofs only[go_sem,hil,Ki,Tr.row,Nd.cv]
   repeat (refine ⟨by first | omega | decide | exact Jh (by omega) (by omega),?_⟩)
   have htk:List.take (kids.length-i) (List.drop i kids)=List.drop i kids:=List.take_of_length_le (by rw[Gj]; exact Nat.le_refl _)
   simp -implicitDefEqProofs only[Kh,htk]
   refine Jr (.inl rfl) o1.1 ?_
   simp -implicitDefEqProofs only[go_sem]
   all_goals first | omega | rfl | exact ⟨by omega,by omega,rfl⟩
theorem refTextO (t:Tr) (i:Nat) (hi:i < t.nodes.length) (x:Nd) (hx:t.nodes.getD i default=x) (u:List UInt8) (hk:40≤x.k) (hO:Fn Tryz.prog 59 [t.cv,.agg x.cv] (S u)):Fn Tryz.prog 16 [t.cv,.int .i64 (i:Int)] (S u):=by
 have hg:=Jz hi
 rw[hx]at hg
 clear hx
 have hE:=J9 x.k
 have hN:inN 1 29 x.k=false:=by unfold inN; simp; omega
 rw[hN]at hE
 obtain ⟨k,text,n,kids,pl⟩:=x
 dsimp only[Nd.cv]at *
 have n1:((k:Int) == 1)=false:=by simpa using (show ¬ (k:Int)=1 by omega)
 have n2:((k:Int) == 2)=false:=by simpa using (show ¬ (k:Int)=2 by omega)
 have n3:((k:Int) == 3)=false:=by simpa using (show ¬ (k:Int)=3 by omega)
 have n4:((k:Int) == 4)=false:=by simpa using (show ¬ (k:Int)=4 by omega)
 have n18:((k:Int) == 18)=false:=by simpa using (show ¬ (k:Int)=18 by omega)
 have n19:((k:Int) == 19)=false:=by simpa using (show ¬ (k:Int)=19 by omega)
 have n20:((k:Int) == 20)=false:=by simpa using (show ¬ (k:Int)=20 by omega)
 have n21:((k:Int) == 21)=false:=by simpa using (show ¬ (k:Int)=21 by omega)
 have n22:((k:Int) == 22)=false:=by simpa using (show ¬ (k:Int)=22 by omega)
 have n23:((k:Int) == 23)=false:=by simpa using (show ¬ (k:Int)=23 by omega)
 have n24:((k:Int) == 24)=false:=by simpa using (show ¬ (k:Int)=24 by omega)
 have n25:((k:Int) == 25)=false:=by simpa using (show ¬ (k:Int)=25 by omega)
 have n26:((k:Int) == 26)=false:=by simpa using (show ¬ (k:Int)=26 by omega)
 have n27:((k:Int) == 27)=false:=by simpa using (show ¬ (k:Int)=27 by omega)
 have n28:((k:Int) == 28)=false:=by simpa using (show ¬ (k:Int)=28 by omega)
 have n29:((k:Int) == 29)=false:=by simpa using (show ¬ (k:Int)=29 by omega)
 refine Jg c16_ok rfl rfl (by simp only[Gc,Gd]; decide) fun N0=>?_
 simp -implicitDefEqProofs only[c16,go_sem,Tr.cv,Tr.row,Je,Nd.cv,Gf,hg,n1,n2,n3,n4,n18,n19,n20,n21,n22,n23,n24,n25,n26,n27,n28,n29]
 repeat (refine ⟨by first | omega | decide | exact Jh (by omega) (by omega),?_⟩)
 refine vr_f hE ?_
 simp -implicitDefEqProofs only[go_sem,Tr.row,Nd.cv,hg]
 refine vr_f hO ?_
 simp -implicitDefEqProofs only[go_sem]
 all_goals rfl
theorem refText28 (t:Tr) (i:Nat) (hi:i < t.nodes.length) (x:Nd) (hx:t.nodes.getD i default=x) (h:RO t x) (hk:x.k=28):Fn Tryz.prog 16 [t.cv,.int .i64 (i:Int)] (S (Jf (Jb t.nodes) (Ja t.nodes) x)):=by
 have hg:=Jz hi
 rw[hx]at hg
 clear hx
 have hL:=refLoop t x h hk
 generalize Jf (Jb t.nodes) (Ja t.nodes) x=u at *
 obtain ⟨k,text,n,kids,pl⟩:=x
 dsimp only[Nd.cv]at *
 subst hk
 refine Jg c16_ok rfl rfl (by simp only[Gc,Gd]; decide) fun N0=>?_
 simp -implicitDefEqProofs only[c16,go_sem,Tr.cv,Tr.row,Je,Nd.cv,Gf,hg]
 repeat (refine ⟨by first | omega | decide | exact Jh (by omega) (by omega),?_⟩)
 refine vr_f hL ?_
 simp -implicitDefEqProofs only[go_sem]
 all_goals rfl
theorem refOtherAll (t:Tr) (x:Nd) (h:RO t x) (hk:40≤x.k):Fn Tryz.prog 59 [t.cv,.agg x.cv] (S (Jf (Jb t.nodes) (Ja t.nodes) x)):=by
 have hb:=h.shp.bound
 have hc:x.k=40∨x.k=41∨x.k=42∨x.k=43∨x.k=44∨x.k=45∨x.k=46∨x.k=47∨x.k=48∨x.k=60∨x.k=61∨x.k=62∨x.k=63∨x.k=64∨x.k=65:=by
  have:=h.shp.kind
  omega
 rcases hc with e | e | e | e | e | e | e | e | e | e | e | e | e | e | e
 ·exact refOther40 t x h e
 ·exact refOther41 t x h e
 ·by_cases hd:x.kids=[]
  ·exact refOther42a t x h e hd
  ·exact refOther42b t x h e hd
 ·exact refOther43 t x h e
 ·exact refOther44 t x h e
 ·exact refOther45 t x h e
 ·exact refOther46 t x h e
 ·by_cases hd:x.n≠1
  ·exact refOther47a t x h e hd
  ·exact refOther47b t x h e hd
 ·rcases (hb e).2.2 with hd | hd
  ·exact refOther48a t x h e hd
  ·by_cases hz:x.n=0
   ·exact refOther48b t x h e hd hz
   ·exact refOther48c t x h e hd hz
 ·exact refOther60 t x h e
 ·exact refOther61 t x h e
 ·exact refOther62 t x h e
 ·exact refOther63 t x h e
 ·exact refOther64 t x h e
 ·exact refOther65 t x h e
theorem refTextAll (t:Tr) (i:Nat) (hi:i < t.nodes.length) (x:Nd) (hx:t.nodes.getD i default=x) (h:RO t x):Fn Tryz.prog 16 [t.cv,.int .i64 (i:Int)] (S (Jf (Jb t.nodes) (Ja t.nodes) x)):=by
 by_cases hk:40≤x.k
 ·exact refTextO t i hi x hx _ hk (refOtherAll t x h hk)
 have hb:=h.shp.boo
 have hc:x.k=1∨x.k=2∨x.k=3∨x.k=4∨x.k=5∨x.k=6∨x.k=7∨x.k=8∨x.k=9∨x.k=10∨x.k=11∨x.k=12∨x.k=13∨x.k=14∨x.k=15∨x.k=16∨x.k=17∨x.k=18∨x.k=19∨x.k=20∨x.k=21∨x.k=22∨x.k=23∨x.k=24∨x.k=25∨x.k=26∨x.k=27∨x.k=28∨x.k=29:=by
  have:=h.shp.kind
  omega
 rcases hc with e | e | e | e | e | e | e | e | e | e | e | e | e | e | e | e | e | e | e | e | e | e | e | e | e | e | e | e | e
 ·exact refText1 t i hi x hx h e
 ·by_cases hd:x.n=1
  ·exact refText2a t i hi x hx h e hd
  ·exact refText2b t i hi x hx h e (by have:=hb e; omega)
 ·exact refText3 t i hi x hx h e
 ·exact refText4 t i hi x hx h e
 ·exact refText5 t i hi x hx h e
 ·exact refText6 t i hi x hx h e
 ·exact refText7 t i hi x hx h e
 ·exact refText8 t i hi x hx h e
 ·exact refText9 t i hi x hx h e
 ·exact refText10 t i hi x hx h e
 ·exact refText11 t i hi x hx h e
 ·exact refText12 t i hi x hx h e
 ·exact refText13 t i hi x hx h e
 ·exact refText14 t i hi x hx h e
 ·exact refText15 t i hi x hx h e
 ·exact refText16 t i hi x hx h e
 ·exact refText17 t i hi x hx h e
 ·exact refText18 t i hi x hx h e
 ·exact refText19 t i hi x hx h e
 ·exact refText20 t i hi x hx h e
 ·exact refText21 t i hi x hx h e
 ·exact refText22 t i hi x hx h e
 ·exact refText23 t i hi x hx h e
 ·exact refText24 t i hi x hx h e
 ·exact refText25 t i hi x hx h e
 ·exact refText26 t i hi x hx h e
 ·exact refText27 t i hi x hx h e
 ·exact refText28 t i hi x hx h e
 ·by_cases hd:0 < x.n
  ·exact refText29a t i hi x hx h e hd
  ·exact refText29b t i hi x hx h e hd
theorem GoodT.textOk {t:Tr}{o:List Int}(g:GoodT t o) (ht:t.Fit):∀ i:Nat,i < t.nodes.length→J3 t (i:Int):=by
 intro i
 induction i using Nat.strongRecOn with
 |ind i ih=>
  intro hi
  have hx:=ht.nodes _ (Gl hi)
  rw[← rowg hi]at hx
  unfold J3
  rw[g.txt hi]
  refine refTextAll t i hi _ rfl ⟨g.shp hi,hx.text,hx.n,hx.kidn,fun k hk=>?_,fun k hk=>?_,fun k hk=>?_⟩
  ·have:=g.kid hi hk; omega
  ·have hr:=g.kid hi hk
   have:=ih k.toNat (by omega) (by omega)
   rw[Gn hr.1]at this
   exact this
  ·have hr:=g.kid hi hk
   exact g.txt_le ht hr.1 (by omega)
theorem GoodT.textOk' {t:Tr}{o:List Int}(g:GoodT t o) (ht:t.Fit) {k:Int}(h0:0≤k) (h1:k < t.nodes.length):J3 t k:=by
 have:=g.textOk ht k.toNat (by omega)
 rw[Gn h0]at this
 exact this
theorem refPrint (t:Tr) (ht:t.Fit) {o:List Int}(g:GoodT t o):Fn Tryz.prog 15 [t.cv] (S (JL [10] (t.items.map (Ja t.nodes)))):=by
 have hT:∀ k:Int,0≤k→k < t.nodes.length→J3 t k:=fun k h0 h1=>g.textOk' ht h0 h1
 have hil:(iz t.items).length=t.items.length:=Jo
 have hitem:∀ k∈t.items,0≤k∧k < t.nodes.length:=fun k hk=>by
  have:=Xi g.ord.ok g.olen _ _ _ g.its k hk
  exact ⟨this.2.1,this.2.2.2⟩
 have hits:=ht.items
 have hbig:∀ l:List Int,(∀ k∈l,k∈t.items)→(JL [10] (l.map (Ja t.nodes))).length≤l.length*300001:=by
  intro l
  induction l with
  |nil=>intro _; simp[JL]
  |cons k l ih=>
   intro hl
   have h1:=hitem k (hl k (by simp))
   have h2:=g.txt_le ht h1.1 h1.2
   have h3:=ih fun j hj=>hl j (by simp[hj])
   simp only[JL,Gh,List.flatten_cons,List.length_append,Gc,Gd,Nat.add_mul]at h3 ⊢
   omega
 refine Jc c15_ok rfl rfl fun N=>?_
 simp -implicitDefEqProofs only[c15,go_sem,Tr.cv,Tr.row]
 refine Jt (id:=0) (z:=2) (els:=[t.row]) rfl rfl ?_
 simp only[go_sem,frzL,frzH,frz,frzO,Tr.row]
 refine JI (I:=fun i:Nat=>i≤t.items.length) (inv:=fun i=>gp [(1,.rptr t.row),(1,S (JL [10] ((t.items.take i).map (Ja t.nodes)))),(0,.int .i64 (i:Int))] 18) (hp:=fun _=>[.dead]) (μ:=fun i=>t.items.length-i) 0 (by omega) ?_ rfl ?_
 ·simp[forget,gp,Tr.row,JL]
 ·intro i hi
  by_cases hlt:i < t.items.length
  ·have d1:((i:Int) < (t.items.length:Int))=True:=eq_true (by omega)
   have hgi:=JV hlt
   have hmem:t.items.getD i 0∈t.items:=by
    rw[List.getD_eq_getElem?_getD,List.getElem?_eq_getElem hlt]; exact Gl hlt
   have hr:=hitem _ hmem
   have hTk:=hT _ hr.1 hr.2
   have hlk:=g.txt_le ht hr.1 hr.2
   have hb:=hbig (t.items.take i) fun k hk=>Gi hk
   rw[Gb]at hb
   have hmul:min i t.items.length*300001≤40*300001:=Nat.mul_le_mul_right _ (by omega)
   have htk:JL [10] ((t.items.take (i+1)).map (Ja t.nodes))=JL [10] ((t.items.take i).map (Ja t.nodes))++(Ja t.nodes (t.items.getD i 0)++[10]):=by
    rw[Qk (d:=0) hlt,Gg,← JaN]; rfl
   unfold J3 at hTk
   generalize t.items.getD i 0=k at *
   generalize JL [10] ((t.items.take i).map (Ja t.nodes))=J at *
   generalize Ja t.nodes k=u at *
   simp -implicitDefEqProofs only[go_sem,hil,d1,Tr.row]
   refine Jm Jn (by decide) ?_
   simp -implicitDefEqProofs only[go_sem,hil,hgi,Tr.row]
   repeat (refine ⟨by first | omega | decide | exact Jh (by omega) (by omega),?_⟩)
   refine Jr (.inl rfl) hTk ?_
   simp -implicitDefEqProofs only[go_sem]
   refine ⟨by omega,by omega,Jh (by omega) (by omega),i+1,by omega,by omega,?_⟩
   rw[htk]
   simp[forget,Tr.row]
  ·have hie:i=t.items.length:=by omega
   subst hie
   have d1:((t.items.length:Int) < (t.items.length:Int))=False:=eq_false (by omega)
   rw[List.take_length]
   simp -implicitDefEqProofs only[go_sem,hil,d1,Tr.row]
end Go.Cm
end
end
