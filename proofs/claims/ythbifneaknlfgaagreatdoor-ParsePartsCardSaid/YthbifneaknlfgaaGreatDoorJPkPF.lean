/-
  A part of the proof. Conditions: none.
-/
import Derived.Test.YthbifneaknlfgaaGreatDoorJP18
set_option linter.unusedSimpArgs false
set_option linter.unusedVariables false
open List renaming length_cons→Ga,length_nil→Gb,length_drop→Gf,mem_of_mem_take→Gh,mem_of_mem_drop→Gj,length_take→Gi,drop→Gd,take_of_length_le→Gm,take→Gg,drop_take→Gn
open Int renaming cast_ofNat_Int→Gc
open Nat renaming le_refl→Gl,le_trans→Gp
noncomputable section
section
set_option maxRecDepth 100000
set_option maxHeartbeats 4000000
open Go.Proofs Go.RowKit
namespace Go.Cm
theorem exprM1 (t:Tr) (x:Nd) (h:KO t x) (hk:x.k=1):FnM Tryz.prog J6 83 (fun id=>[prn t id,.agg x.cv]) (S (Jt (Jj t.nodes) (Jh t.nodes) x)):=by
 have hf:=h.few
 have hnr:=h.n
 have htx:=h.text
 obtain ⟨k,text,n,kids,pl⟩:=x
 dsimp only at *
 subst hk
 have e:Jt (Jj t.nodes) (Jh t.nodes) ⟨1,text,n,kids,pl⟩=Lib.itoa n:=rfl
 rw[e]
 clear e
 refine JD c83_ok (Jv t _ rfl) rfl (by simp only[Ga,Gb]; decide) fun N=>?_
 repeat first | refine ⟨by first | omega | decide | exact Jm (by omega) (by omega),?_⟩ | refine JZ (fnItoa n hnr) ?_ | simp -implicitDefEqProofs only[c83,go_sem,prn,Nd.cv,Gc]
 all_goals first | omega | rfl | exact ⟨by omega,rfl⟩
theorem exprM2 (t:Tr) (x:Nd) (h:KO t x) (hk:x.k=2):FnM Tryz.prog J6 83 (fun id=>[prn t id,.agg x.cv]) (S (Jt (Jj t.nodes) (Jh t.nodes) x)):=by
 have hf:=h.few
 have hnr:=h.n
 have htx:=h.text
 obtain ⟨k,text,n,kids,pl⟩:=x
 dsimp only at *
 subst hk
 have e:Jt (Jj t.nodes) (Jh t.nodes) ⟨2,text,n,kids,pl⟩=(if n=1 then [116,114,117,101] else [102,97,108,115,101]):=rfl
 rw[e]
 clear e
 have hif:(if (n == 1)=true then [116,114,117,101] else [102,97,108,115,101])=(if n=1 then [116,114,117,101] else [102,97,108,115,101]:List UInt8):=by simp only[beq_iff_eq]
 rw[← hif]
 refine JD c83_ok (Jv t _ rfl) rfl (by simp only[Ga,Gb]; decide) fun N=>?_
 repeat first | refine ⟨by first | omega | decide | exact Jm (by omega) (by omega),?_⟩ | refine JZ (fnBool (n == 1)) ?_ | simp -implicitDefEqProofs only[c83,go_sem,prn,Nd.cv,Gc]
 all_goals first | omega | rfl | exact ⟨by omega,rfl⟩
theorem exprM3 (t:Tr) (x:Nd) (h:KO t x) (hk:x.k=3):FnM Tryz.prog J6 83 (fun id=>[prn t id,.agg x.cv]) (S (Jt (Jj t.nodes) (Jh t.nodes) x)):=by
 have hf:=h.few
 have hnr:=h.n
 have htx:=h.text
 obtain ⟨k,text,n,kids,pl⟩:=x
 dsimp only at *
 subst hk
 have e:Jt (Jj t.nodes) (Jh t.nodes) ⟨3,text,n,kids,pl⟩=text:=rfl
 rw[e]
 clear e
 refine JD c83_ok (Jv t _ rfl) rfl (by simp only[Ga,Gb]; decide) fun N=>?_
 repeat first | refine ⟨by first | omega | decide | exact Jm (by omega) (by omega),?_⟩ | simp -implicitDefEqProofs only[c83,go_sem,prn,Nd.cv,Gc]
 all_goals first | omega | rfl | exact ⟨by omega,rfl⟩
theorem exprM18 (t:Tr) (x:Nd) (h:KO t x) (hk:x.k=18):FnM Tryz.prog J6 83 (fun id=>[prn t id,.agg x.cv]) (S (Jt (Jj t.nodes) (Jh t.nodes) x)):=by
 have hf:=h.few
 have hnr:=h.n
 have htx:=h.text
 have h2:x.kids.length=2:=h.shp.two (by omega)
 obtain ⟨k,text,n,kids,pl⟩:=x
 dsimp only at *
 subst hk
 obtain ⟨a,b,rfl⟩:∃ a b,kids=[a,b]:=by
  match kids,h2 with
  |[a,b],_=>exact ⟨_,_,rfl⟩
 have e:Jt (Jj t.nodes) (Jh t.nodes) ⟨18,text,n,[a,b],pl⟩=opx (Jj t.nodes) (Jh t.nodes) a 8++[91]++Jh t.nodes b++[93]:=rfl
 rw[e]
 clear e
 have oa:=h.opM (k:=a) (by simp) 8
 have la:=oa.2
 have sb:=h.show_ b (by simp)
 have lb:=h.len b (by simp)
 unfold KE at *
 generalize opx (Jj t.nodes) (Jh t.nodes) a 8=ua at *
 generalize Jh t.nodes b=ub at *
 refine JD c83_ok (Jv t _ rfl) rfl (by simp only[Ga,Gb]; decide) fun N=>?_
 repeat first | refine ⟨by first | omega | decide | exact Jm (by omega) (by omega),?_⟩ | refine JS JF (by decide) ?_ | refine KN rfl (.inl rfl) oa.1 rfl ?_ | refine KN rfl (.inl rfl) sb rfl ?_ | simp -implicitDefEqProofs only[c83,go_sem,prn,Nd.cv,Gc,iz2]
 all_goals first | omega | rfl | exact ⟨by omega,rfl⟩
theorem exprM19 (t:Tr) (x:Nd) (h:KO t x) (hk:x.k=19):FnM Tryz.prog J6 83 (fun id=>[prn t id,.agg x.cv]) (S (Jt (Jj t.nodes) (Jh t.nodes) x)):=by
 have hf:=h.few
 have hnr:=h.n
 have htx:=h.text
 have h2:x.kids.length=1:=h.shp.one (by omega)
 obtain ⟨k,text,n,kids,pl⟩:=x
 dsimp only at *
 subst hk
 obtain ⟨a,rfl⟩:∃ a,kids=[a]:=by
  match kids,h2 with
  |[a],_=>exact ⟨_,rfl⟩
 have e:Jt (Jj t.nodes) (Jh t.nodes) ⟨19,text,n,[a],pl⟩=[110,111,116,32]++opx (Jj t.nodes) (Jh t.nodes) a 3:=rfl
 rw[e]
 clear e
 have oa:=h.opM (k:=a) (by simp) 3
 have la:=oa.2
 generalize opx (Jj t.nodes) (Jh t.nodes) a 3=ua at *
 refine JD c83_ok (Jv t _ rfl) rfl (by simp only[Ga,Gb]; decide) fun N=>?_
 repeat first | refine ⟨by first | omega | decide | exact Jm (by omega) (by omega),?_⟩ | refine JS JF (by decide) ?_ | refine KN rfl (.inl rfl) oa.1 rfl ?_ | simp -implicitDefEqProofs only[c83,go_sem,prn,Nd.cv,Gc,iz1]
 all_goals first | omega | rfl | exact ⟨by omega,rfl⟩
theorem exprM20 (t:Tr) (x:Nd) (h:KO t x) (hk:x.k=20):FnM Tryz.prog J6 83 (fun id=>[prn t id,.agg x.cv]) (S (Jt (Jj t.nodes) (Jh t.nodes) x)):=by
 have hf:=h.few
 have hnr:=h.n
 have htx:=h.text
 have h2:x.kids.length=1:=h.shp.one (by omega)
 obtain ⟨k,text,n,kids,pl⟩:=x
 dsimp only at *
 subst hk
 obtain ⟨a,rfl⟩:∃ a,kids=[a]:=by
  match kids,h2 with
  |[a],_=>exact ⟨_,rfl⟩
 have e:Jt (Jj t.nodes) (Jh t.nodes) ⟨20,text,n,[a],pl⟩=[45]++opx (Jj t.nodes) (Jh t.nodes) a 7:=rfl
 rw[e]
 clear e
 have oa:=h.opM (k:=a) (by simp) 7
 have la:=oa.2
 generalize opx (Jj t.nodes) (Jh t.nodes) a 7=ua at *
 refine JD c83_ok (Jv t _ rfl) rfl (by simp only[Ga,Gb]; decide) fun N=>?_
 repeat first | refine ⟨by first | omega | decide | exact Jm (by omega) (by omega),?_⟩ | refine JS JF (by decide) ?_ | refine KN rfl (.inl rfl) oa.1 rfl ?_ | simp -implicitDefEqProofs only[c83,go_sem,prn,Nd.cv,Gc,iz1]
 all_goals first | omega | rfl | exact ⟨by omega,rfl⟩
theorem exprM27 (t:Tr) (x:Nd) (h:KO t x) (hk:x.k=27):FnM Tryz.prog J6 83 (fun id=>[prn t id,.agg x.cv]) (S (Jt (Jj t.nodes) (Jh t.nodes) x)):=by
 have hf:=h.few
 have hnr:=h.n
 have htx:=h.text
 have h2:x.kids.length=3:=h.shp.three (by omega)
 obtain ⟨k,text,n,kids,pl⟩:=x
 dsimp only at *
 subst hk
 obtain ⟨a,b,c,rfl⟩:∃ a b c,kids=[a,b,c]:=by
  match kids,h2 with
  |[a,b,c],_=>exact ⟨_,_,_,rfl⟩
 have e:Jt (Jj t.nodes) (Jh t.nodes) ⟨27,text,n,[a,b,c],pl⟩=[105,102,32]++Jh t.nodes a++[32]++Jh t.nodes b++[32,101,108,115,101,32]++Jh t.nodes c:=rfl
 rw[e]
 clear e
 have sa:=h.show_ a (by simp)
 have la:=h.len a (by simp)
 have sb:=h.show_ b (by simp)
 have lb:=h.len b (by simp)
 have sc:=h.show_ c (by simp)
 have lc:=h.len c (by simp)
 unfold KE at *
 generalize Jh t.nodes a=ua at *
 generalize Jh t.nodes b=ub at *
 generalize Jh t.nodes c=uc at *
 refine JD c83_ok (Jv t _ rfl) rfl (by simp only[Ga,Gb]; decide) fun N=>?_
 repeat first | refine ⟨by first | omega | decide | exact Jm (by omega) (by omega),?_⟩ | refine JS JF (by decide) ?_ | refine KN rfl (.inl rfl) sa rfl ?_ | refine KN rfl (.inl rfl) sb rfl ?_ | refine KN rfl (.inl rfl) sc rfl ?_ | simp -implicitDefEqProofs only[c83,go_sem,prn,Nd.cv,Gc,iz3]
 all_goals first | omega | rfl | exact ⟨by omega,rfl⟩
theorem exprM26 (t:Tr) (x:Nd) (h:KO t x) (hk:x.k=26):FnM Tryz.prog J6 83 (fun id=>[prn t id,.agg x.cv]) (S (Jt (Jj t.nodes) (Jh t.nodes) x)):=by
 have hf:=h.few
 have hnr:=h.n
 have htx:=h.text
 obtain ⟨k,text,n,kids,pl⟩:=x
 dsimp only at *
 subst hk
 have e:Jt (Jj t.nodes) (Jh t.nodes) ⟨26,text,n,kids,pl⟩=text++[40]++Lib.join ((kids).map (Jh t.nodes)) [44,32]++[41]:=rfl
 rw[e]
 clear e
 have o1:=h.allM kids (fun k hk=>hk) (Gl _) hf 44 32
 have l1:=o1.2
 generalize Lib.join ((kids).map (Jh t.nodes)) [44,32]=p at *
 have hil:(iz kids).length=kids.length:=Jn
 refine JD c83_ok (Jv t _ rfl) rfl (by simp only[Ga,Gb]; decide) fun N=>?_
 repeat first | refine ⟨by first | omega | decide | exact Jm (by omega) (by omega),?_⟩ | refine JS JF (by decide) ?_ | refine KN rfl (.inl rfl) o1.1 rfl ?_ | simp -implicitDefEqProofs only[c83,go_sem,prn,Nd.cv,Gc,hil,YQ,YT]
 all_goals first | omega | rfl | exact ⟨by omega,rfl⟩
theorem exprM28 (t:Tr) (x:Nd) (h:KO t x) (hk:x.k=28):FnM Tryz.prog J6 83 (fun id=>[prn t id,.agg x.cv]) (S (Jt (Jj t.nodes) (Jh t.nodes) x)):=by
 have hf:=h.few
 have hnr:=h.n
 have htx:=h.text
 have hl:=h.shp.loop hk
 obtain ⟨k,text,n,kids,pl⟩:=x
 dsimp only at *
 subst hk
 obtain ⟨N,rfl⟩:∃ N:Nat,n=(N:Int):=⟨n.toNat,by omega⟩
 have e:Jt (Jj t.nodes) (Jh t.nodes) ⟨28,text,(N:Int),kids,pl⟩=[108,111,111,112,40]++Lib.join ((kids.take N).map (Jh t.nodes)) [44,32]++[41,32,119,104,105,108,101,32]++Jh t.nodes (kid ⟨28,text,(N:Int),kids,pl⟩ (N))++[32,100,111,32,123,32]++KF [59,32] (((kids.take (kids.length-1)).drop (N+1)).map (Jh t.nodes))++[125,32]++Jh t.nodes (kid ⟨28,text,(N:Int),kids,pl⟩ (kids.length-1)):=rfl
 rw[e]
 clear e
 have ma:=JaP (x:=⟨28,text,(N:Int),kids,pl⟩) (i:=N) (by dsimp only; omega)
 have ga:(iz kids).getD (N) []=[.int .i64 (kid ⟨28,text,(N:Int),kids,pl⟩ (N))]:=Kb (by omega)
 have sa:=h.show_ _ ma
 have la:=h.len _ ma
 have mb:=JaP (x:=⟨28,text,(N:Int),kids,pl⟩) (i:=kids.length-1) (by dsimp only; omega)
 have gb:(iz kids).getD (kids.length-1) []=[.int .i64 (kid ⟨28,text,(N:Int),kids,pl⟩ (kids.length-1))]:=Kb (by omega)
 have sb:=h.show_ _ mb
 have lb:=h.len _ mb
 have hN1:((N:Int)+1).toNat=N+1:=by omega
 have hmid:Gg (kids.length-1-(N+1)) (Gd (N+1) kids)=Gd (N+1) (Gg (kids.length-1) kids):=Gn.symm
 have o1:=h.allM (kids.take N) (fun k hk=>Gh hk) (Jad _ _) (by rw[Gi]; omega) 44 32
 have l1:=o1.2
 have o2:=h.eachM ((kids.take (kids.length-1)).drop (N+1)) (fun k hk=>Gh (Gj hk)) (Gp (Jbc _ _) (Jad _ _)) (by rw[Gf,Gi]; omega)
 have l2:=o2.2
 unfold KE at *
 generalize kid ⟨28,text,(N:Int),kids,pl⟩ (N)=a at *
 generalize Jh t.nodes a=ua at *
 generalize kid ⟨28,text,(N:Int),kids,pl⟩ (kids.length-1)=b at *
 generalize Jh t.nodes b=ub at *
 generalize Lib.join ((kids.take N).map (Jh t.nodes)) [44,32]=p at *
 generalize KF [59,32] (((kids.take (kids.length-1)).drop (N+1)).map (Jh t.nodes))=q at *
 have hil:(iz kids).length=kids.length:=Jn
 refine JD c83_ok (Jv t _ rfl) rfl (by simp only[Ga,Gb]; decide) fun N=>?_
 repeat first | refine ⟨by first | omega | decide | exact Jm (by omega) (by omega),?_⟩ | refine JS JF (by decide) ?_ | refine KN rfl (.inl rfl) o1.1 rfl ?_ | refine KN rfl (.inl rfl) sa rfl ?_ | refine KN rfl (.inl rfl) o2.1 rfl ?_ | refine KN rfl (.inl rfl) sb rfl ?_ | simp -implicitDefEqProofs only[c83,go_sem,prn,Nd.cv,Gc,hil,YQ,YT,ga,gb,hN1,hmid]
 all_goals first | omega | rfl | exact ⟨by omega,rfl⟩
theorem exprM29a (t:Tr) (x:Nd) (h:KO t x) (hk:x.k=29) (hd:0 < x.n):FnM Tryz.prog J6 83 (fun id=>[prn t id,.agg x.cv]) (S (Jt (Jj t.nodes) (Jh t.nodes) x)):=by
 have hf:=h.few
 have hnr:=h.n
 have htx:=h.text
 have hl:=h.shp.arr hk
 obtain ⟨k,text,n,kids,pl⟩:=x
 dsimp only at *
 subst hk
 obtain ⟨N,rfl⟩:∃ N:Nat,n=(N:Int):=⟨n.toNat,by omega⟩
 have e:Jt (Jj t.nodes) (Jh t.nodes) ⟨29,text,(N:Int),kids,pl⟩=[97,114,114,97,121,40]++Jh t.nodes (kid ⟨29,text,(N:Int),kids,pl⟩ (0))++(if 0 < (N:Int) then [44,32]++Lib.itoa (N:Int) else [])++[41,32,123,32]++Lib.join ((kids.drop 1).map (Jh t.nodes)) [59,32]++[32,125]:=rfl
 rw[e]
 clear e
 have ma:=JaP (x:=⟨29,text,(N:Int),kids,pl⟩) (i:=0) (by dsimp only; omega)
 have ga:(iz kids).getD (0) []=[.int .i64 (kid ⟨29,text,(N:Int),kids,pl⟩ (0))]:=Kb (by omega)
 have sa:=h.show_ _ ma
 have la:=h.len _ ma
 have hdr:Gg (kids.length-1) (Gd 1 kids)=Gd 1 kids:=Gm (by rw[Gf]; exact Gl _)
 have o1:=h.allM (kids.drop 1) (fun k hk=>Gj hk) (Jbc _ _) (by rw[Gf]; omega) 59 32
 have l1:=o1.2
 have d1:((N:Int) > 0)=True:=eq_true hd
 rw[if_pos hd]
 have li:=Lib.itoa_length_le (N:Int) hnr.1 hnr.2
 unfold KE at *
 generalize kid ⟨29,text,(N:Int),kids,pl⟩ (0)=a at *
 generalize Jh t.nodes a=ua at *
 generalize Lib.join ((kids.drop 1).map (Jh t.nodes)) [59,32]=p at *
 have hil:(iz kids).length=kids.length:=Jn
 refine JD c83_ok (Jv t _ rfl) rfl (by simp only[Ga,Gb]; decide) fun N=>?_
 repeat first | refine ⟨by first | omega | decide | exact Jm (by omega) (by omega),?_⟩ | refine JZ (fnItoa _ hnr) ?_ | refine JS JF (by decide) ?_ | refine KN rfl (.inl rfl) sa rfl ?_ | refine KN rfl (.inl rfl) o1.1 rfl ?_ | simp -implicitDefEqProofs only[c83,go_sem,prn,Nd.cv,Gc,hil,YQ,YT,ga,d1,hdr]
 all_goals first | omega | rfl | exact ⟨by omega,rfl⟩
theorem exprM29b (t:Tr) (x:Nd) (h:KO t x) (hk:x.k=29) (hd:¬ 0 < x.n):FnM Tryz.prog J6 83 (fun id=>[prn t id,.agg x.cv]) (S (Jt (Jj t.nodes) (Jh t.nodes) x)):=by
 have hf:=h.few
 have hnr:=h.n
 have htx:=h.text
 have hl:=h.shp.arr hk
 obtain ⟨k,text,n,kids,pl⟩:=x
 dsimp only at *
 subst hk
 obtain ⟨N,rfl⟩:∃ N:Nat,n=(N:Int):=⟨n.toNat,by omega⟩
 have e:Jt (Jj t.nodes) (Jh t.nodes) ⟨29,text,(N:Int),kids,pl⟩=[97,114,114,97,121,40]++Jh t.nodes (kid ⟨29,text,(N:Int),kids,pl⟩ (0))++(if 0 < (N:Int) then [44,32]++Lib.itoa (N:Int) else [])++[41,32,123,32]++Lib.join ((kids.drop 1).map (Jh t.nodes)) [59,32]++[32,125]:=rfl
 rw[e]
 clear e
 have ma:=JaP (x:=⟨29,text,(N:Int),kids,pl⟩) (i:=0) (by dsimp only; omega)
 have ga:(iz kids).getD (0) []=[.int .i64 (kid ⟨29,text,(N:Int),kids,pl⟩ (0))]:=Kb (by omega)
 have sa:=h.show_ _ ma
 have la:=h.len _ ma
 have hdr:Gg (kids.length-1) (Gd 1 kids)=Gd 1 kids:=Gm (by rw[Gf]; exact Gl _)
 have o1:=h.allM (kids.drop 1) (fun k hk=>Gj hk) (Jbc _ _) (by rw[Gf]; omega) 59 32
 have l1:=o1.2
 have d1:((N:Int) > 0)=False:=eq_false hd
 rw[if_neg hd]
 unfold KE at *
 generalize kid ⟨29,text,(N:Int),kids,pl⟩ (0)=a at *
 generalize Jh t.nodes a=ua at *
 generalize Lib.join ((kids.drop 1).map (Jh t.nodes)) [59,32]=p at *
 have hil:(iz kids).length=kids.length:=Jn
 refine JD c83_ok (Jv t _ rfl) rfl (by simp only[Ga,Gb]; decide) fun N=>?_
 repeat first | refine ⟨by first | omega | decide | exact Jm (by omega) (by omega),?_⟩ | refine JS JF (by decide) ?_ | refine KN rfl (.inl rfl) sa rfl ?_ | refine KN rfl (.inl rfl) o1.1 rfl ?_ | simp -implicitDefEqProofs only[c83,go_sem,prn,Nd.cv,Gc,hil,YQ,YT,ga,d1,hdr]
 all_goals first | omega | rfl | exact ⟨by omega,rfl⟩
theorem partM40 (t:Tr) (x:Nd) (h:KO t x) (hk:x.k=40):FnM Tryz.prog J6 84 (fun id=>[prn t id,.agg x.cv]) (S (Jt (Jj t.nodes) (Jh t.nodes) x)):=by
 have hf:=h.few
 have hnr:=h.n
 have htx:=h.text
 have hl:=h.shp.block hk
 obtain ⟨k,text,n,kids,pl⟩:=x
 dsimp only at *
 subst hk
 obtain ⟨N,rfl⟩:∃ N:Nat,n=(N:Int):=⟨n.toNat,by omega⟩
 have e:Jt (Jj t.nodes) (Jh t.nodes) ⟨40,text,(N:Int),kids,pl⟩=[123,32]++KF [59,32] ((kids.take N).map (Jh t.nodes))++[103,105,118,101,32]++Lib.join ((kids.drop N).map (Jh t.nodes)) [44,32]++[32,125]:=rfl
 rw[e]
 clear e
 have hdr:Gg (kids.length-N) (Gd N kids)=Gd N kids:=Gm (by rw[Gf]; exact Gl _)
 have o1:=h.allM (kids.drop N) (fun k hk=>Gj hk) (Jbc _ _) (by rw[Gf]; omega) 44 32
 have l1:=o1.2
 have o2:=h.eachM (kids.take N) (fun k hk=>Gh hk) (Jad _ _) (by rw[Gi]; omega)
 have l2:=o2.2
 generalize Lib.join ((kids.drop N).map (Jh t.nodes)) [44,32]=p at *
 generalize KF [59,32] ((kids.take N).map (Jh t.nodes))=q at *
 have hil:(iz kids).length=kids.length:=Jn
 refine JD c84_ok (Jv t _ rfl) rfl (by simp only[Ga,Gb]; decide) fun N=>?_
 repeat first | refine ⟨by first | omega | decide | exact Jm (by omega) (by omega),?_⟩ | refine JS JF (by decide) ?_ | refine KN rfl (.inl rfl) o2.1 rfl ?_ | refine KN rfl (.inl rfl) o1.1 rfl ?_ | simp -implicitDefEqProofs only[c84,go_sem,prn,Nd.cv,Gc,hil,YQ,YT,hdr]
 all_goals first | omega | rfl | exact ⟨by omega,rfl⟩
theorem partM41 (t:Tr) (x:Nd) (h:KO t x) (hk:x.k=41):FnM Tryz.prog J6 84 (fun id=>[prn t id,.agg x.cv]) (S (Jt (Jj t.nodes) (Jh t.nodes) x)):=by
 have hf:=h.few
 have hnr:=h.n
 have htx:=h.text
 have hl:=h.shp.set hk
 obtain ⟨k,text,n,kids,pl⟩:=x
 dsimp only at *
 subst hk
 obtain ⟨N,rfl⟩:∃ N:Nat,n=(N:Int):=⟨n.toNat,by omega⟩
 have e:Jt (Jj t.nodes) (Jh t.nodes) ⟨41,text,(N:Int),kids,pl⟩=Lib.join ((kids.take N).map (Jh t.nodes)) [44,32]++[32,61,32]++Jh t.nodes (kid ⟨41,text,(N:Int),kids,pl⟩ (N)):=rfl
 rw[e]
 clear e
 have ma:=JaP (x:=⟨41,text,(N:Int),kids,pl⟩) (i:=N) (by dsimp only; omega)
 have ga:(iz kids).getD (N) []=[.int .i64 (kid ⟨41,text,(N:Int),kids,pl⟩ (N))]:=Kb (by omega)
 have sa:=h.show_ _ ma
 have la:=h.len _ ma
 have o1:=h.allM (kids.take N) (fun k hk=>Gh hk) (Jad _ _) (by rw[Gi]; omega) 44 32
 have l1:=o1.2
 unfold KE at *
 generalize kid ⟨41,text,(N:Int),kids,pl⟩ (N)=a at *
 generalize Jh t.nodes a=ua at *
 generalize Lib.join ((kids.take N).map (Jh t.nodes)) [44,32]=p at *
 have hil:(iz kids).length=kids.length:=Jn
 refine JD c84_ok (Jv t _ rfl) rfl (by simp only[Ga,Gb]; decide) fun N=>?_
 repeat first | refine ⟨by first | omega | decide | exact Jm (by omega) (by omega),?_⟩ | refine JS JF (by decide) ?_ | refine KN rfl (.inl rfl) o1.1 rfl ?_ | refine KN rfl (.inl rfl) sa rfl ?_ | simp -implicitDefEqProofs only[c84,go_sem,prn,Nd.cv,Gc,hil,YQ,YT,ga]
 all_goals first | omega | rfl | exact ⟨by omega,rfl⟩
theorem partM42a (t:Tr) (x:Nd) (h:KO t x) (hk:x.k=42) (hd:x.kids=[]):FnM Tryz.prog J6 84 (fun id=>[prn t id,.agg x.cv]) (S (Jt (Jj t.nodes) (Jh t.nodes) x)):=by
 have hf:=h.few
 have hnr:=h.n
 have htx:=h.text
 obtain ⟨k,text,n,kids,pl⟩:=x
 dsimp only at *
 subst hk hd
 have e:Jt (Jj t.nodes) (Jh t.nodes) ⟨42,text,n,[],pl⟩=text:=rfl
 rw[e]
 clear e
 refine JD c84_ok (Jv t _ rfl) rfl (by simp only[Ga,Gb]; decide) fun N=>?_
 repeat first | refine ⟨by first | omega | decide | exact Jm (by omega) (by omega),?_⟩ | simp -implicitDefEqProofs only[c84,go_sem,prn,Nd.cv,Gc,iz0]
 all_goals first | omega | rfl | exact ⟨by omega,rfl⟩
theorem partM42b (t:Tr) (x:Nd) (h:KO t x) (hk:x.k=42) (hd:x.kids≠[]):FnM Tryz.prog J6 84 (fun id=>[prn t id,.agg x.cv]) (S (Jt (Jj t.nodes) (Jh t.nodes) x)):=by
 have hf:=h.few
 have hnr:=h.n
 have htx:=h.text
 have h2:x.kids.length=1:=by have:=h.shp.bind hk; have:x.kids.length≠0:=fun e=>hd (List.eq_nil_of_length_eq_zero e); omega
 obtain ⟨k,text,n,kids,pl⟩:=x
 dsimp only at *
 subst hk
 obtain ⟨a,rfl⟩:∃ a,kids=[a]:=by
  match kids,h2 with
  |[a],_=>exact ⟨_,rfl⟩
 have e:Jt (Jj t.nodes) (Jh t.nodes) ⟨42,text,n,[a],pl⟩=text++[58,32]++Jh t.nodes a:=rfl
 rw[e]
 clear e
 have sa:=h.show_ a (by simp)
 have la:=h.len a (by simp)
 unfold KE at *
 generalize Jh t.nodes a=ua at *
 refine JD c84_ok (Jv t _ rfl) rfl (by simp only[Ga,Gb]; decide) fun N=>?_
 repeat first | refine ⟨by first | omega | decide | exact Jm (by omega) (by omega),?_⟩ | refine JS JF (by decide) ?_ | refine KN rfl (.inl rfl) sa rfl ?_ | simp -implicitDefEqProofs only[c84,go_sem,prn,Nd.cv,Gc,iz1]
 all_goals first | omega | rfl | exact ⟨by omega,rfl⟩
theorem partM43 (t:Tr) (x:Nd) (h:KO t x) (hk:x.k=43):FnM Tryz.prog J6 84 (fun id=>[prn t id,.agg x.cv]) (S (Jt (Jj t.nodes) (Jh t.nodes) x)):=by
 have hf:=h.few
 have hnr:=h.n
 have htx:=h.text
 have h2:x.kids.length=1:=h.shp.one (by omega)
 obtain ⟨k,text,n,kids,pl⟩:=x
 dsimp only at *
 subst hk
 obtain ⟨a,rfl⟩:∃ a,kids=[a]:=by
  match kids,h2 with
  |[a],_=>exact ⟨_,rfl⟩
 have e:Jt (Jj t.nodes) (Jh t.nodes) ⟨43,text,n,[a],pl⟩=text++[32,58,61,32]++Jh t.nodes a:=rfl
 rw[e]
 clear e
 have sa:=h.show_ a (by simp)
 have la:=h.len a (by simp)
 unfold KE at *
 generalize Jh t.nodes a=ua at *
 refine JD c84_ok (Jv t _ rfl) rfl (by simp only[Ga,Gb]; decide) fun N=>?_
 repeat first | refine ⟨by first | omega | decide | exact Jm (by omega) (by omega),?_⟩ | refine JS JF (by decide) ?_ | refine KN rfl (.inl rfl) sa rfl ?_ | simp -implicitDefEqProofs only[c84,go_sem,prn,Nd.cv,Gc,iz1]
 all_goals first | omega | rfl | exact ⟨by omega,rfl⟩
theorem partM44 (t:Tr) (x:Nd) (h:KO t x) (hk:x.k=44):FnM Tryz.prog J6 84 (fun id=>[prn t id,.agg x.cv]) (S (Jt (Jj t.nodes) (Jh t.nodes) x)):=by
 have hf:=h.few
 have hnr:=h.n
 have htx:=h.text
 have h2:x.kids.length=1:=h.shp.one (by omega)
 obtain ⟨k,text,n,kids,pl⟩:=x
 dsimp only at *
 subst hk
 obtain ⟨a,rfl⟩:∃ a,kids=[a]:=by
  match kids,h2 with
  |[a],_=>exact ⟨_,rfl⟩
 have e:Jt (Jj t.nodes) (Jh t.nodes) ⟨44,text,n,[a],pl⟩=[110,101,120,116,32]++text++[32,61,32]++Jh t.nodes a:=rfl
 rw[e]
 clear e
 have sa:=h.show_ a (by simp)
 have la:=h.len a (by simp)
 unfold KE at *
 generalize Jh t.nodes a=ua at *
 refine JD c84_ok (Jv t _ rfl) rfl (by simp only[Ga,Gb]; decide) fun N=>?_
 repeat first | refine ⟨by first | omega | decide | exact Jm (by omega) (by omega),?_⟩ | refine JS JF (by decide) ?_ | refine KN rfl (.inl rfl) sa rfl ?_ | simp -implicitDefEqProofs only[c84,go_sem,prn,Nd.cv,Gc,iz1]
 all_goals first | omega | rfl | exact ⟨by omega,rfl⟩
theorem partM45 (t:Tr) (x:Nd) (h:KO t x) (hk:x.k=45):FnM Tryz.prog J6 84 (fun id=>[prn t id,.agg x.cv]) (S (Jt (Jj t.nodes) (Jh t.nodes) x)):=by
 have hf:=h.few
 have hnr:=h.n
 have htx:=h.text
 obtain ⟨k,text,n,kids,pl⟩:=x
 dsimp only at *
 subst hk
 have e:Jt (Jj t.nodes) (Jh t.nodes) ⟨45,text,n,kids,pl⟩=[103,105,118,101,40]++Lib.join ((kids).map (Jh t.nodes)) [44,32]++[41]:=rfl
 rw[e]
 clear e
 have o1:=h.allM kids (fun k hk=>hk) (Gl _) hf 44 32
 have l1:=o1.2
 generalize Lib.join ((kids).map (Jh t.nodes)) [44,32]=p at *
 have hil:(iz kids).length=kids.length:=Jn
 refine JD c84_ok (Jv t _ rfl) rfl (by simp only[Ga,Gb]; decide) fun N=>?_
 repeat first | refine ⟨by first | omega | decide | exact Jm (by omega) (by omega),?_⟩ | refine vr_fM rfl (.inl rfl) o1.1 rfl ?_ | simp -implicitDefEqProofs only[c84,go_sem,prn,Nd.cv,Gc,hil,YQ,YT]
 all_goals first | omega | rfl | exact ⟨by omega,rfl⟩
theorem partM46 (t:Tr) (x:Nd) (h:KO t x) (hk:x.k=46):FnM Tryz.prog J6 84 (fun id=>[prn t id,.agg x.cv]) (S (Jt (Jj t.nodes) (Jh t.nodes) x)):=by
 have hf:=h.few
 have hnr:=h.n
 have htx:=h.text
 have h2:x.kids.length=2:=h.shp.two (by omega)
 obtain ⟨k,text,n,kids,pl⟩:=x
 dsimp only at *
 subst hk
 obtain ⟨a,b,rfl⟩:∃ a b,kids=[a,b]:=by
  match kids,h2 with
  |[a,b],_=>exact ⟨_,_,rfl⟩
 have e:Jt (Jj t.nodes) (Jh t.nodes) ⟨46,text,n,[a,b],pl⟩=[91]++Jh t.nodes a++[93,32,61,32]++Jh t.nodes b:=rfl
 rw[e]
 clear e
 have sa:=h.show_ a (by simp)
 have la:=h.len a (by simp)
 have sb:=h.show_ b (by simp)
 have lb:=h.len b (by simp)
 unfold KE at *
 generalize Jh t.nodes a=ua at *
 generalize Jh t.nodes b=ub at *
 refine JD c84_ok (Jv t _ rfl) rfl (by simp only[Ga,Gb]; decide) fun N=>?_
 repeat first | refine ⟨by first | omega | decide | exact Jm (by omega) (by omega),?_⟩ | refine JS JF (by decide) ?_ | refine KN rfl (.inl rfl) sa rfl ?_ | refine KN rfl (.inl rfl) sb rfl ?_ | simp -implicitDefEqProofs only[c84,go_sem,prn,Nd.cv,Gc,iz2]
 all_goals first | omega | rfl | exact ⟨by omega,rfl⟩
theorem partM47a (t:Tr) (x:Nd) (h:KO t x) (hk:x.k=47) (hd:x.n≠1):FnM Tryz.prog J6 84 (fun id=>[prn t id,.agg x.cv]) (S (Jt (Jj t.nodes) (Jh t.nodes) x)):=by
 have hf:=h.few
 have hnr:=h.n
 have htx:=h.text
 have h2:x.kids.length=3:=h.shp.three (by omega)
 obtain ⟨k,text,n,kids,pl⟩:=x
 dsimp only at *
 subst hk
 obtain ⟨a,b,c,rfl⟩:∃ a b c,kids=[a,b,c]:=by
  match kids,h2 with
  |[a,b,c],_=>exact ⟨_,_,_,rfl⟩
 have e:Jt (Jj t.nodes) (Jh t.nodes) ⟨47,text,n,[a,b,c],pl⟩=[91]++text++[32,105,110,32]++Jh t.nodes a++[46,46]++Jh t.nodes b++(if n≠1 then [32,98,121,32]++Lib.itoa n else [])++[93,32,61,32]++Jh t.nodes c:=rfl
 rw[e]
 clear e
 have sa:=h.show_ a (by simp)
 have la:=h.len a (by simp)
 have sb:=h.show_ b (by simp)
 have lb:=h.len b (by simp)
 have sc:=h.show_ c (by simp)
 have lc:=h.len c (by simp)
 have d1:(n != 1)=true:=by simpa using hd
 rw[if_pos hd]
 have li:=Lib.itoa_length_le n hnr.1 hnr.2
 unfold KE at *
 generalize Jh t.nodes a=ua at *
 generalize Jh t.nodes b=ub at *
 generalize Jh t.nodes c=uc at *
 refine JD c84_ok (Jv t _ rfl) rfl (by simp only[Ga,Gb]; decide) fun N=>?_
 repeat first | refine ⟨by first | omega | decide | exact Jm (by omega) (by omega),?_⟩ | refine JZ (fnItoa n hnr) ?_ | refine JS JF (by decide) ?_ | refine KN rfl (.inl rfl) sa rfl ?_ | refine KN rfl (.inl rfl) sb rfl ?_ | refine KN rfl (.inl rfl) sc rfl ?_ | simp -implicitDefEqProofs only[c84,go_sem,prn,Nd.cv,Gc,iz3,d1]
 all_goals first | omega | rfl | exact ⟨by omega,rfl⟩
theorem partM47b (t:Tr) (x:Nd) (h:KO t x) (hk:x.k=47) (hd:¬ x.n≠1):FnM Tryz.prog J6 84 (fun id=>[prn t id,.agg x.cv]) (S (Jt (Jj t.nodes) (Jh t.nodes) x)):=by
 have hf:=h.few
 have hnr:=h.n
 have htx:=h.text
 have h2:x.kids.length=3:=h.shp.three (by omega)
 obtain ⟨k,text,n,kids,pl⟩:=x
 dsimp only at *
 subst hk
 obtain ⟨a,b,c,rfl⟩:∃ a b c,kids=[a,b,c]:=by
  match kids,h2 with
  |[a,b,c],_=>exact ⟨_,_,_,rfl⟩
 have e:Jt (Jj t.nodes) (Jh t.nodes) ⟨47,text,n,[a,b,c],pl⟩=[91]++text++[32,105,110,32]++Jh t.nodes a++[46,46]++Jh t.nodes b++(if n≠1 then [32,98,121,32]++Lib.itoa n else [])++[93,32,61,32]++Jh t.nodes c:=rfl
 rw[e]
 clear e
 have sa:=h.show_ a (by simp)
 have la:=h.len a (by simp)
 have sb:=h.show_ b (by simp)
 have lb:=h.len b (by simp)
 have sc:=h.show_ c (by simp)
 have lc:=h.len c (by simp)
 have d1:(n != 1)=false:=by simpa using hd
 rw[if_neg hd]
 unfold KE at *
 generalize Jh t.nodes a=ua at *
 generalize Jh t.nodes b=ub at *
 generalize Jh t.nodes c=uc at *
 refine JD c84_ok (Jv t _ rfl) rfl (by simp only[Ga,Gb]; decide) fun N=>?_
 repeat first | refine ⟨by first | omega | decide | exact Jm (by omega) (by omega),?_⟩ | refine JS JF (by decide) ?_ | refine KN rfl (.inl rfl) sa rfl ?_ | refine KN rfl (.inl rfl) sb rfl ?_ | refine KN rfl (.inl rfl) sc rfl ?_ | simp -implicitDefEqProofs only[c84,go_sem,prn,Nd.cv,Gc,iz3,d1]
 all_goals first | omega | rfl | exact ⟨by omega,rfl⟩
theorem partM48a (t:Tr) (x:Nd) (h:KO t x) (hk:x.k=48) (hd:x.text=[]):FnM Tryz.prog J6 84 (fun id=>[prn t id,.agg x.cv]) (S (Jt (Jj t.nodes) (Jh t.nodes) x)):=by
 have hf:=h.few
 have hnr:=h.n
 have htx:=h.text
 obtain ⟨k,text,n,kids,pl⟩:=x
 dsimp only at *
 subst hk hd
 have e:Jt (Jj t.nodes) (Jh t.nodes) ⟨48,[],n,kids,pl⟩=Lib.itoa n:=rfl
 rw[e]
 clear e
 have d1:(([]:List UInt8) == [])=true:=rfl
 refine JD c84_ok (Jv t _ rfl) rfl (by simp only[Ga,Gb]; decide) fun N=>?_
 repeat first | refine ⟨by first | omega | decide | exact Jm (by omega) (by omega),?_⟩ | refine JZ (fnItoa n hnr) ?_ | simp -implicitDefEqProofs only[c84,go_sem,prn,Nd.cv,Gc,d1]
 all_goals first | omega | rfl | exact ⟨by omega,rfl⟩
theorem partM48b (t:Tr) (x:Nd) (h:KO t x) (hk:x.k=48) (hd:x.text=[35]) (hz:x.n=0):FnM Tryz.prog J6 84 (fun id=>[prn t id,.agg x.cv]) (S (Jt (Jj t.nodes) (Jh t.nodes) x)):=by
 have hf:=h.few
 have hnr:=h.n
 have htx:=h.text
 obtain ⟨k,text,n,kids,pl⟩:=x
 dsimp only at *
 subst hk hd hz
 have e:Jt (Jj t.nodes) (Jh t.nodes) ⟨48,[35],0,kids,pl⟩=[35]:=rfl
 rw[e]
 clear e
 have d1:(([35]:List UInt8) == [])=false:=rfl
 refine JD c84_ok (Jv t _ rfl) rfl (by simp only[Ga,Gb]; decide) fun N=>?_
 repeat first | refine ⟨by first | omega | decide | exact Jm (by omega) (by omega),?_⟩ | simp -implicitDefEqProofs only[c84,go_sem,prn,Nd.cv,Gc,d1]
 all_goals first | omega | rfl | exact ⟨by omega,rfl⟩
theorem partM48c (t:Tr) (x:Nd) (h:KO t x) (hk:x.k=48) (hd:x.text=[35]) (hz:x.n≠0):FnM Tryz.prog J6 84 (fun id=>[prn t id,.agg x.cv]) (S (Jt (Jj t.nodes) (Jh t.nodes) x)):=by
 have hf:=h.few
 have hnr:=h.n
 have htx:=h.text
 obtain ⟨k,text,n,kids,pl⟩:=x
 dsimp only at *
 subst hk hd
 have e:Jt (Jj t.nodes) (Jh t.nodes) ⟨48,[35],n,kids,pl⟩=(if n=0 then [35] else [35]++[32,45,32]++Lib.itoa n):=rfl
 rw[e]
 clear e
 have d1:(([35]:List UInt8) == [])=false:=rfl
 have d2:(n == 0)=false:=by simpa using hz
 have li:=Lib.itoa_length_le n hnr.1 hnr.2
 rw[if_neg hz]
 refine JD c84_ok (Jv t _ rfl) rfl (by simp only[Ga,Gb]; decide) fun N=>?_
 repeat first | refine ⟨by first | omega | decide | exact Jm (by omega) (by omega),?_⟩ | refine JS JF (by decide) ?_ | refine YA (.inl rfl) (fnItoa n hnr) ?_ | simp -implicitDefEqProofs only[c84,go_sem,prn,Nd.cv,Gc,d1,d2]
 all_goals first | omega | rfl | exact ⟨by omega,rfl⟩
theorem itemM60 (t:Tr) (x:Nd) (h:KO t x) (hk:x.k=60):FnM Tryz.prog J6 85 (fun id=>[prn t id,.agg x.cv]) (S (Jt (Jj t.nodes) (Jh t.nodes) x)):=by
 have hf:=h.few
 have hnr:=h.n
 have htx:=h.text
 obtain ⟨k,text,n,kids,pl⟩:=x
 dsimp only at *
 subst hk
 have e:Jt (Jj t.nodes) (Jh t.nodes) ⟨60,text,n,kids,pl⟩=[105,110,116]:=rfl
 rw[e]
 clear e
 refine JD c85_ok (Jv t _ rfl) rfl (by simp only[Ga,Gb]; decide) fun N=>?_
 repeat first | refine ⟨by first | omega | decide | exact Jm (by omega) (by omega),?_⟩ | simp -implicitDefEqProofs only[c85,go_sem,prn,Nd.cv,Gc]
 all_goals first | omega | rfl | exact ⟨by omega,rfl⟩
theorem itemM61 (t:Tr) (x:Nd) (h:KO t x) (hk:x.k=61):FnM Tryz.prog J6 85 (fun id=>[prn t id,.agg x.cv]) (S (Jt (Jj t.nodes) (Jh t.nodes) x)):=by
 have hf:=h.few
 have hnr:=h.n
 have htx:=h.text
 obtain ⟨k,text,n,kids,pl⟩:=x
 dsimp only at *
 subst hk
 have e:Jt (Jj t.nodes) (Jh t.nodes) ⟨61,text,n,kids,pl⟩=[98,111,111,108]:=rfl
 rw[e]
 clear e
 refine JD c85_ok (Jv t _ rfl) rfl (by simp only[Ga,Gb]; decide) fun N=>?_
 repeat first | refine ⟨by first | omega | decide | exact Jm (by omega) (by omega),?_⟩ | simp -implicitDefEqProofs only[c85,go_sem,prn,Nd.cv,Gc]
 all_goals first | omega | rfl | exact ⟨by omega,rfl⟩
theorem itemM62 (t:Tr) (x:Nd) (h:KO t x) (hk:x.k=62):FnM Tryz.prog J6 85 (fun id=>[prn t id,.agg x.cv]) (S (Jt (Jj t.nodes) (Jh t.nodes) x)):=by
 have hf:=h.few
 have hnr:=h.n
 have htx:=h.text
 have h2:x.kids.length=1:=h.shp.one (by omega)
 obtain ⟨k,text,n,kids,pl⟩:=x
 dsimp only at *
 subst hk
 obtain ⟨a,rfl⟩:∃ a,kids=[a]:=by
  match kids,h2 with
  |[a],_=>exact ⟨_,rfl⟩
 have e:Jt (Jj t.nodes) (Jh t.nodes) ⟨62,text,n,[a],pl⟩=[91]++Jh t.nodes a++[93]:=rfl
 rw[e]
 clear e
 have sa:=h.show_ a (by simp)
 have la:=h.len a (by simp)
 unfold KE at *
 generalize Jh t.nodes a=ua at *
 refine JD c85_ok (Jv t _ rfl) rfl (by simp only[Ga,Gb]; decide) fun N=>?_
 repeat first | refine ⟨by first | omega | decide | exact Jm (by omega) (by omega),?_⟩ | refine JS JF (by decide) ?_ | refine KN rfl (.inl rfl) sa rfl ?_ | simp -implicitDefEqProofs only[c85,go_sem,prn,Nd.cv,Gc,iz1]
 all_goals first | omega | rfl | exact ⟨by omega,rfl⟩
theorem itemM63 (t:Tr) (x:Nd) (h:KO t x) (hk:x.k=63):FnM Tryz.prog J6 85 (fun id=>[prn t id,.agg x.cv]) (S (Jt (Jj t.nodes) (Jh t.nodes) x)):=by
 have hf:=h.few
 have hnr:=h.n
 have htx:=h.text
 have h2:x.kids.length=1:=h.shp.one (by omega)
 obtain ⟨k,text,n,kids,pl⟩:=x
 dsimp only at *
 subst hk
 obtain ⟨a,rfl⟩:∃ a,kids=[a]:=by
  match kids,h2 with
  |[a],_=>exact ⟨_,rfl⟩
 have e:Jt (Jj t.nodes) (Jh t.nodes) ⟨63,text,n,[a],pl⟩=[115,116,114,101,97,109,32]++Jh t.nodes a:=rfl
 rw[e]
 clear e
 have sa:=h.show_ a (by simp)
 have la:=h.len a (by simp)
 unfold KE at *
 generalize Jh t.nodes a=ua at *
 refine JD c85_ok (Jv t _ rfl) rfl (by simp only[Ga,Gb]; decide) fun N=>?_
 repeat first | refine ⟨by first | omega | decide | exact Jm (by omega) (by omega),?_⟩ | refine JS JF (by decide) ?_ | refine KN rfl (.inl rfl) sa rfl ?_ | simp -implicitDefEqProofs only[c85,go_sem,prn,Nd.cv,Gc,iz1]
 all_goals first | omega | rfl | exact ⟨by omega,rfl⟩
theorem itemM64 (t:Tr) (x:Nd) (h:KO t x) (hk:x.k=64):FnM Tryz.prog J6 85 (fun id=>[prn t id,.agg x.cv]) (S (Jt (Jj t.nodes) (Jh t.nodes) x)):=by
 have hf:=h.few
 have hnr:=h.n
 have htx:=h.text
 have h2:x.kids.length=1:=h.shp.one (by omega)
 obtain ⟨k,text,n,kids,pl⟩:=x
 dsimp only at *
 subst hk
 obtain ⟨a,rfl⟩:∃ a,kids=[a]:=by
  match kids,h2 with
  |[a],_=>exact ⟨_,rfl⟩
 have e:Jt (Jj t.nodes) (Jh t.nodes) ⟨64,text,n,[a],pl⟩=text++[58,32]++Jh t.nodes a:=rfl
 rw[e]
 clear e
 have sa:=h.show_ a (by simp)
 have la:=h.len a (by simp)
 unfold KE at *
 generalize Jh t.nodes a=ua at *
 refine JD c85_ok (Jv t _ rfl) rfl (by simp only[Ga,Gb]; decide) fun N=>?_
 repeat first | refine ⟨by first | omega | decide | exact Jm (by omega) (by omega),?_⟩ | refine JS JF (by decide) ?_ | refine KN rfl (.inl rfl) sa rfl ?_ | simp -implicitDefEqProofs only[c85,go_sem,prn,Nd.cv,Gc,iz1]
 all_goals first | omega | rfl | exact ⟨by omega,rfl⟩
theorem itemM65 (t:Tr) (x:Nd) (h:KO t x) (hk:x.k=65):FnM Tryz.prog J6 85 (fun id=>[prn t id,.agg x.cv]) (S (Jt (Jj t.nodes) (Jh t.nodes) x)):=by
 have hf:=h.few
 have hnr:=h.n
 have htx:=h.text
 have hl:=h.shp.de hk
 obtain ⟨k,text,n,kids,pl⟩:=x
 dsimp only at *
 subst hk
 obtain ⟨N,rfl⟩:∃ N:Nat,n=(N:Int):=⟨n.toNat,by omega⟩
 have e:Jt (Jj t.nodes) (Jh t.nodes) ⟨65,text,(N:Int),kids,pl⟩=[100,101,102,32]++text++[40]++Lib.join ((kids.take N).map (Jh t.nodes)) [44,32]++[41,32,45,62,32]++Lib.join (((kids.take (kids.length-1)).drop N).map (Jh t.nodes)) [44,32]++[32]++Jh t.nodes (kid ⟨65,text,(N:Int),kids,pl⟩ (kids.length-1)):=rfl
 rw[e]
 clear e
 have mb:=JaP (x:=⟨65,text,(N:Int),kids,pl⟩) (i:=kids.length-1) (by dsimp only; omega)
 have gb:(iz kids).getD (kids.length-1) []=[.int .i64 (kid ⟨65,text,(N:Int),kids,pl⟩ (kids.length-1))]:=Kb (by omega)
 have sb:=h.show_ _ mb
 have lb:=h.len _ mb
 have hmid:Gg (kids.length-1-N) (Gd N kids)=Gd N (Gg (kids.length-1) kids):=Gn.symm
 have o1:=h.allM (kids.take N) (fun k hk=>Gh hk) (Jad _ _) (by rw[Gi]; omega) 44 32
 have l1:=o1.2
 have o2:=h.allM ((kids.take (kids.length-1)).drop N) (fun k hk=>Gh (Gj hk)) (Gp (Jbc _ _) (Jad _ _)) (by rw[Gf,Gi]; omega) 44 32
 have l2:=o2.2
 unfold KE at *
 generalize kid ⟨65,text,(N:Int),kids,pl⟩ (kids.length-1)=b at *
 generalize Jh t.nodes b=ub at *
 generalize Lib.join ((kids.take N).map (Jh t.nodes)) [44,32]=p at *
 generalize Lib.join (((kids.take (kids.length-1)).drop N).map (Jh t.nodes)) [44,32]=q at *
 have hil:(iz kids).length=kids.length:=Jn
 refine JD c85_ok (Jv t _ rfl) rfl (by simp only[Ga,Gb]; decide) fun N=>?_
 repeat first | refine ⟨by first | omega | decide | exact Jm (by omega) (by omega),?_⟩ | refine JS JF (by decide) ?_ | refine KN rfl (.inl rfl) o1.1 rfl ?_ | refine KN rfl (.inl rfl) o2.1 rfl ?_ | refine KN rfl (.inl rfl) sb rfl ?_ | simp -implicitDefEqProofs only[c85,go_sem,prn,Nd.cv,Gc,hil,YQ,YT,gb,hmid]
 all_goals first | omega | rfl | exact ⟨by omega,rfl⟩
end Go.Cm
end
end
