/-
  Lemmas towards the law, 21: Parse6, Places2, OrdS, Parse7, Walked, Places3, Draws, Walked2, DefG.
-/
import Derived.Test.YtbnkbepgmenblaaGreatDoorFAT
set_option linter.unusedVariables false
set_option maxHeartbeats 2000000
set_option maxRecDepth 100000
namespace Go.Proofs.YtbnkbepgmenblaaGreatDoor
open Go.RowKit
theorem q213(d:Nat)(hd:d<=30)(ih:q25 d)(s:ByteArray)(a:Nat)(w:World)(hs:s.size<=1000000000)(ha:a < s.size)(hc:s[a]=91):
 Calls Tryz.prog 29 #[.string s,.int .i64 a,.int .i64 ((d:Int)+1)] w (y19 w.heap.size w s.size (prs (d+1) s.data.toList a)):=by
 have hR0:prs (d+1) s.data.toList a=sqr (prs d s.data.toList) s.data.toList (a+1):=by rw[j34 (j41 ha hc)];rfl
 rw[hR0];clear hR0;have HI:=hdq (fun(a:Nat) (A:Int) (hA:A=a) W (ha:a<=s.size+2)=>(show Calls Tryz.prog 29 #[.string s,.int .i64 A,.int .i64 d] W (y19 W.heap.size W s.size (prs d s.data.toList a)) from by subst hA;exact ih s a W hs ha));obtain⟨F,hF⟩: ∃F,F=prs d s.data.toList:=⟨_,rfl⟩;rw[<-hF] at HI⊢;have E9:sqr F s.data.toList (a+1)=match F (a+1) with
  |none=> none
  |some (x,b)=> if s.data.toList[b]? =some 93 then(match F (b+1) with|none=> none|some (y,c)=> some (.mk 4 0 [x,y],c)) else none:=rfl
 obtain⟨R,hR⟩: ∃R,R=sqr F s.data.toList (a+1):=⟨_,rfl⟩;rw[<-hR] at E9⊢;have HD:=hdq E9;clear hR ih hF E9;go_enter Tryz.func29,Tryz.ntmps29;go_wp2_with fail;refine(HI.out (a+1) _ (by omega) _ (by omega)).mono ?_;rintro e w1 ⟨t,u,nx,rfl,hF,e1,q1,q2⟩;obtain⟨k0,n0,A0,l0,c0,rfl⟩:=hF.three;have hb:=e1.newBlk;have hsz:=e1.size_alloc;have hx0:=((xr w).alloc (.cells #[.int .i64 0,.int .i64 0,.slice none 0 0] 26)).trans e1;have hx1:=hx0.trans ((xr w1).alloc (.cells #[.int .i64 k0,.int .i64 n0,.slice A0 l0 c0] 26));have V5:=hF.ext ((xr w1).alloc (.cells #[.int .i64 k0,.int .i64 n0,.slice A0 l0 c0] 26));simp only[World.size_alloc] at V5;have hb':=((xr w1).alloc (.cells #[.int .i64 k0,.int .i64 n0,.slice A0 l0 c0] 26)).blk hb;have Py:=heap_alloc_new w1 (.cells #[.int .i64 k0,.int .i64 n0,.slice A0 l0 c0] 26);cases hFa:F (a+1) with
 |none=>
  obtain rfl:=q2 hFa;have J3:=HD.out;rw[hFa] at J3;have HR:=hdq J3;obtain⟨s0,s1,s2,f0,f1,f2⟩:=own3 hb';clear q1 q2 J3 hFa hsz;go_wp2_with fail;exact bodyPost_ret (v:= .tuple #[.agg #[.int .i64 0,.int .i64 0,.slice none 0 0],.int .i64 (-1)]) (by simp[results,Tryz.results29,go_sem,s0,s1,s2]) rfl (q52 _ _ _ _ _ HR.out (((hx1.setCell (by simp) _).setCell (by simp) _).setCell (by simp) _))
 |some y=>
  obtain⟨x,b⟩:=y;obtain⟨h1,h2,h3⟩:=q1 _ hFa;simp only at h1 h2 h3;have C6:=HD.out;rw[hFa] at C6;simp only at C6;subst h1 h2;clear q1 q2 hFa;have t0:decide ((b:Int) < 0)=false:=decide_eq_false (by omega);by_cases hlt:b < s.size
  · obtain⟨c,hcc⟩: ∃c,s[b]=c:=⟨_,rfl⟩
    rw[j41 hlt hcc] at C6;have hbz:(b:Int) <(s.size:Int):=by omega
    have t1:decide ((s.size:Int)<=(b:Int))=false:=decide_eq_false (by omega);obtain⟨m,hm⟩: ∃m,c.toNat=m:=⟨_,rfl⟩;by_cases h93:c=93
    · have Ny:m=93:=by rw[<-hm,h93];rfl
      rw[if_pos (by rw[h93])] at C6;subst Ny;have Fa:=hdq C6;clear C6 h93;go_wp2_with fail;refine(HI.out (b+1) _ (by omega) _ (by omega)).mono ?_;rintro e w2 ⟨t',u',Jm,rfl,hF',e2,q1,q2⟩;obtain⟨k1,n1,A1,l1,c1,rfl⟩:=hF'.three;have hs2:=e2.size_alloc;have cj:=e2.trans ((xr w2).alloc (.cells #[.int .i64 k1,.int .i64 n1,.slice A1 l1 c1] 26));have hb2:=cj.blk hb';have sy:=cj.blk Py;have N5:=heap_alloc_new w2 (.cells #[.int .i64 k1,.int .i64 n1,.slice A1 l1 c1] 26);obtain⟨x0,x1,x2,-,-,-⟩:=own3 sy;have hx2:=hx1.trans cj;have hF2:=V5.ext cj;have wq:=(hF'.ext ((xr w2).alloc (.cells #[.int .i64 k1,.int .i64 n1,.slice A1 l1 c1] 26))).since (show w.heap.size+1<=_ by simp;omega);have Z0:=hdq q1;have W7:=hdq q2;clear q1 q2 hs2;go_wp2_with fail;refine(q30 (w.heap.size+1) _ 4 _ 2 [t,t'] (by intro h;cases h) (j35.two (g:=w2.heap.size+1) (e:=26) hF2 wq (by have:=e2.size_alloc;simp;omega) (by simp)) (by have:=e2.size_alloc;simp;omega) (by simp)).mono ?_;rintro e w3 ⟨v,rfl,hN,e3⟩;obtain⟨k3,n3,A3,l3,c3,rfl⟩:=hN.three;obtain⟨z0,z1,z2,g0,g1,g2⟩:=own3 (e3.blk (((xr _).alloc _).blk hb2));have hx3:=hx2.trans (((xr _).alloc _).trans e3);clear x0 x1 x2;go_wp2_with fail;refine bodyPost_ret (v:= .tuple #[.agg #[.int .i64 k3,.int .i64 n3,.slice A3 l3 c3],.int .i64 Jm]) (by simp[results,Tryz.results29,go_sem,z0,z1,z2]) rfl ⟨_,_,_,rfl,(((hN.set (by simp) _).set (by simp) _).set (by simp) _).since (by omega),((hx3.setCell (by simp) _).setCell (by simp) _).setCell (by simp) _, ?_, ?_⟩
      · intro x hx
        rw[Fa.out] at hx;cases hFb:F (b+1) with
        |none=> rw[hFb] at hx;cases hx
        |some y2=>
         rw[hFb] at hx;cases hx
         obtain⟨g1,g2,g3⟩:=Z0.out _ hFb;exact⟨by rw[g1],g2,g3⟩
      · intro hx
        rw[Fa.out] at hx;cases hFb:F (b+1) with
        |none=> exact W7.out hFb
        |some y2=> rw[hFb] at hx;cases hx
    · rw[if_neg (by intro h;cases h;exact h93 rfl)] at C6
      have HR:=hdq C6;have t7:((m:Int) !=93)=true:=by rw[bne_iff_ne];intro h;exact h93 (UInt8.toNat_inj.1 (by rw[hm];simp;omega))
      obtain⟨s0,s1,s2,f0,f1,f2⟩:=own3 hb';clear C6 h93 hsz;go_wp2_with fail;exact bodyPost_ret (v:= .tuple #[.agg #[.int .i64 0,.int .i64 0,.slice none 0 0],.int .i64 (-1)]) (by simp[results,Tryz.results29,go_sem,s0,s1,s2]) rfl (q52 _ _ _ _ _ HR.out (((hx1.setCell (by simp) _).setCell (by simp) _).setCell (by simp) _))
  · rw[j43 s (by omega),if_neg (by simp)] at C6
    have HR:=hdq C6;have t1:decide ((s.size:Int)<=(b:Int))=true:=decide_eq_true (by omega);obtain⟨s0,s1,s2,f0,f1,f2⟩:=own3 hb';clear C6 hsz;go_wp2_with fail;exact bodyPost_ret (v:= .tuple #[.agg #[.int .i64 0,.int .i64 0,.slice none 0 0],.int .i64 (-1)]) (by simp[results,Tryz.results29,go_sem,s0,s1,s2]) rfl (q52 _ _ _ _ _ HR.out (((hx1.setCell (by simp) _).setCell (by simp) _).setCell (by simp) _))
theorem j39{c:UInt8}{p:Nat}{v:UInt8}(hp:c.toNat=p)(h:c≠v):((p:Int)==(v.toNat:Int))=false:=by
 rw[beq_eq_false_iff_ne];intro e;exact h (UInt8.toNat_inj.1 (by rw[hp];omega))
theorem y213(d:Nat)(hd:d<=30)(s:ByteArray)(a:Nat)(w:World)(hs:s.size<=1000000000)(ha:a < s.size)(c:UInt8)(hc:s[a]=c)
 (h1:c≠35) (h2:c≠42) (h3:c≠78) (h4:c≠48) (h5:c≠43) (h6:c≠33) (h7:c≠94) (h8:c≠95) (h9:c≠40) (h10:c≠91) (hk:blkK c=0):
 Calls Tryz.prog 29 #[.string s,.int .i64 a,.int .i64 ((d:Int)+1)] w (y19 w.heap.size w s.size (prs (d+1) s.data.toList a)):=by
 have HI:=hdq (fun W=> y199 d hd s a W hs ha c hc hk);have hR:=j34 (d:=d) (j41 ha hc);rw[if_neg h1,if_neg h2,if_neg h3,if_neg h4,if_neg h5,if_neg h6,if_neg h7,if_neg h8,if_neg h9,if_neg h10] at hR;rw[hR];obtain⟨p,hp⟩: ∃p,c.toNat=p:=⟨_,rfl⟩;have t1:((p:Int)==35)=false:=j39 hp h1;have t2:((p:Int)==42)=false:=j39 hp h2;have t3:((p:Int)==78)=false:=j39 hp h3;have t4:((p:Int)==48)=false:=j39 hp h4;have t5:((p:Int)==43)=false:=j39 hp h5;have t6:((p:Int)==33)=false:=j39 hp h6;have t7:((p:Int)==94)=false:=j39 hp h7;have t8:((p:Int)==95)=false:=j39 hp h8;have t9:((p:Int)==40)=false:=j39 hp h9;have t10:((p:Int)==91)=false:=j39 hp h10;clear hR h1 h2 h3 h4 h5 h6 h7 h8 h9 h10 hk;go_enter Tryz.func29,Tryz.ntmps29;go_wp2_with fail;refine(HI.out _).mono ?_;intro e w1 hq;obtain⟨t,k1,n1,A1,l1,c1,nx,rfl,hF,e1,HQ⟩:=hq.on;obtain⟨s0,s1,s2,f0,f1,f2⟩:=own3 e1.newBlk;have hsz:=e1.size_alloc;have hE:=((xr w).alloc (.cells #[.int .i64 0,.int .i64 0,.slice none 0 0] 26)).trans e1;have hF':From (w.heap.size+1) w1 t (.agg #[.int .i64 k1,.int .i64 n1,.slice A1 l1 c1]):=by simpa using hF
 clear hq hF;go_wp2_with fail;exact bodyPost_ret (v:= .tuple #[.agg #[.int .i64 k1,.int .i64 n1,.slice A1 l1 c1],.int .i64 nx]) (by simp[results,Tryz.results29,go_sem,s0,s1,s2]) rfl ⟨t,_,nx,rfl,(((hF'.set (by simp) _).set (by simp) _).set (by simp) _).since (by omega),((hE.setCell (by simp) _).setCell (by simp) _).setCell (by simp) _,HQ.out.1,HQ.out.2⟩
theorem y150(s:ByteArray)(a:Nat)(w:World):Calls Tryz.prog 29 #[.string s,.int .i64 a,.int .i64 0] w (y19 w.heap.size w s.size none):=by
 go_enter Tryz.func29,Tryz.ntmps29;go_wp2_with fail;exact bodyPost_ret (v:= .tuple #[.agg #[.int .i64 0,.int .i64 0,.slice none 0 0],.int .i64 (-1)]) (by simp[results,Tryz.results29,go_sem]) rfl (q52 _ _ _ _ _ rfl ((xr w).alloc _))
theorem j186(d:Nat)(hd:d<=30)(s:ByteArray)(a:Nat)(w:World)(hs:s.size<=1000000000)(ha:s.size<=a):Calls Tryz.prog 29 #[.string s,.int .i64 a,.int .i64 ((d:Int)+1)] w (y19 w.heap.size w s.size none):=by
 have t0:decide ((a:Int) < 0)=false:=decide_eq_false (by omega);have t1:decide ((s.size:Int)<=(a:Int))=true:=decide_eq_true (by omega);go_enter Tryz.func29,Tryz.ntmps29;go_wp2_with fail;exact bodyPost_ret (v:= .tuple #[.agg #[.int .i64 0,.int .i64 0,.slice none 0 0],.int .i64 (-1)]) (by simp[results,Tryz.results29,go_sem]) rfl (q52 _ _ _ _ _ rfl ((xr w).alloc _))
theorem q128: ∀d:Nat,d<=30->q25 d
 |0,_=> fun s a w hs ha=> y150 s a w
 |d+1,hd=> by
  have ih:=q128 d (by omega);intro s a w hs ha;rw[show((d+1:Nat):Int)=(d:Int)+1 by omega];have J8:d<=30:=by omega
  rcases Nat.lt_or_ge a s.size with hlt|rk
  · obtain⟨c,hc⟩: ∃c,s[a]=c:=⟨_,rfl⟩
    by_cases xy:c=35
    · exact y201 d J8 s a w hs hlt (by rw[hc,xy])
    by_cases Gp:c=42
    · exact j200 d J8 s a w hs hlt (by rw[hc,Gp])
    by_cases h78:c=78
    · exact y218 d J8 s a w hs hlt (by rw[hc,h78])
    by_cases fj:c=48
    · exact q207 d J8 s a w hs hlt (by rw[hc,fj])
    by_cases Dv:c=43
    · exact y195 d J8 ih s a w hs hlt (by rw[hc,Dv])
    by_cases h33:c=33
    · exact j198 d J8 ih s a w hs hlt (by rw[hc,h33])
    by_cases yc:c=94
    · exact q199 d J8 ih s a w hs hlt (by rw[hc,yc])
    by_cases h95:c=95
    · exact q208 d J8 ih s a w hs hlt (by rw[hc,h95])
    by_cases Dc:c=40
    · exact j195 d J8 ih s a w hs hlt (by rw[hc,Dc])
    by_cases h91:c=91
    · exact q213 d J8 ih s a w hs hlt (by rw[hc,h91])
    by_cases gm:c=60
    · exact q215 d J8 ih s a w hs hlt (by rw[hc,gm])
    by_cases h123:c=123
    · exact q173 d J8 ih s a w hs hlt (by rw[hc,h123])
    by_cases h124:c=124
    · exact y184 d J8 ih s a w hs hlt (by rw[hc,h124])
    by_cases h64:c=64
    · exact j196 d J8 ih s a w hs hlt (by rw[hc,h64])
    exact y213 d J8 s a w hs hlt c hc xy Gp h78 fj Dv h33 yc h95 Dc h91 (by unfold blkK;rw[if_neg gm,if_neg h123,if_neg h124,if_neg h64])
  · rw[j146 (j43 s rk)]
    exact j186 d J8 s a w hs rk
end Go.Proofs.YtbnkbepgmenblaaGreatDoor
namespace Go.Proofs.YtbnkbepgmenblaaGreatDoor
open Go.RowKit
attribute [local go_sem ↓] Go.wp_at_zero Go.wp_at_succ
theorem j20{t:Tr}(h:valid sigT t=true):cnt t<=400/\shape sigT t 30=true:=by
 unfold valid at h;rw[Bool.and_eq_true] at h;exact⟨of_decide_eq_true h.2,h.1⟩
end Go.Proofs.YtbnkbepgmenblaaGreatDoor
namespace Go.Proofs.YtbnkbepgmenblaaGreatDoor
open Go.RowKit
theorem ordX{P:Program}{ops:Array Oper}{Q:Exit->Act->World->Prop}{l0:Array Bool}{a0:Act}{fuel:Nat}{ox:Oper}(W:World)(m N x:Nat)(lT lX:Array Bool)(fT:Nat)(l:List Sp)(fq:OrdX.okX ops l0 m N x=true)(hN:a0.tmps.size=N)(hf:fuel=Ord.opnO l0 ops.size)(nv:Ord.doneO l0 m=lT)(qi:Ord.opnO lT ops.size=fT)
 (Gv:ops[x]? =some ox) (Gf:x < m) (y7:Ord.isOn l0 x=false) (Kj:lT.setIfInBounds x false=lX) (py:Region.noSelect ops=true) (Ow:Region.free .any ops lX x=true) (R6:(Region.ready .any ops lX).contains x=true)
 (hQ: ∀v c a w,Q (.panic c) (a.put ox.dst v) w->Q (.panic c) a w)
 (hX: ∀a w z,EG (W.drew, []) (w,z)->(∀t,Ord.isDst ops l0 m t=false->a.eval (.tmp t)=a0.eval (.tmp t))->(∀j d,Ord.depO ops l0 x j d=true->spGG l j (a.eval (.tmp d)) (w,z))-> ∃u,YieldsIf P ops (fun _=> True) ox u a/\spGG l x u (w,z))
 (steps:OrdG.StepsO P ops Q l0 m EG (spGG l) a0 (W.drew, []) 0 (ops.toList.take m))
 (fin: ∀(v:Nat->Value) w z,EG (W.drew, []) (w,z)->(∀j,j < m->Ord.isOn l0 j=false->spGG l j (v j) (w,z))->wpAnyH P .any ops Q (fun _=> True) fT lT (Ord.putN ops v (fun j=> !Ord.isOn l0 j) a0 m) w):
 wpAnyH P .any ops Q (fun _=> True) fuel l0 a0 W.drew:=
 OrdX.wpAnyH_orderX (w0:=(W.drew, [])) fq hN hf nv qi Gv Gf y7 Kj py Ow R6 hQ hX (EG.start _) (fun _ _ _ h h'=> h.trans h') (y139 _) (fun _ _ _=> trivial) steps fin
theorem j85(l:List UInt8):(ofL l).toList=l:=by rw[ByteArray.toList_eq,y22]
theorem y192{l:List UInt8}{t:Tr}{b:Nat}(h:prs 30 l 0=some (t,b)):prsV l=if l≠ []/\b=l.length/\fmtV t=l then some t else none:=by
 unfold prsV;rw[h]
theorem y180{l:List UInt8}(h:prs 30 l 0=none):prsV l=none:=by
 unfold prsV;rw[h]
theorem y112(s:ByteArray)(w:World)(hs:s.size<=1000000000):Calls Tryz.prog 17 #[.string s] w fun e w'=> ∃u,e= .returned (.tuple #[u,.bool (prsV s.data.toList).isSome])/\From w.heap.size w' ((prsV s.data.toList).getD (.mk 0 0 [])) u/\Ext w w':=by
 have HP:=hdq (fun W=>(show Calls Tryz.prog 29 #[.string s,.int .i64 0,.int .i64 30] W (y19 W.heap.size W s.size (prs 30 s.data.toList 0)) from q128 30 (by omega) s 0 W hs (by omega)));have hlen:s.data.toList.length=s.size:=by rw[Array.length_toList];rfl
 have fo:=ByteArray.toList_eq s;obtain⟨R,hR⟩: ∃R,R=prsV s.data.toList:=⟨_,rfl⟩;rw[<-hR];obtain⟨F,qj⟩: ∃F,F=prs 30 s.data.toList 0:=⟨_,rfl⟩;rw[<-qj] at HP;cases F with
 |none=>
  have J3:R=none:=by rw[hR];exact y180 qj.symm
  have HR:=hdq J3;obtain⟨be,hbe⟩: ∃be,s.toList.isEmpty=be:=⟨_,rfl⟩;have Pu:(s.toList== [])=be:=by rw[<-hbe];cases s.toList <;> rfl
  have t1:((-1:Int) !=(s.size:Int))=true:=by rw[bne_iff_ne];omega
  clear hR qj hlen fo J3;cases be
  all_goals(
   go_enter Tryz.func17,Tryz.ntmps17;go_wp2_with fail;refine(HP.out _).mono ?_;rintro e w1 ⟨t,u,nx,rfl,hF,e1,-,q2⟩;obtain rfl:=q2 rfl;obtain⟨k0,n0,A0,l0,c0,rfl⟩:=hF.three;have hx1:=(((xr w).alloc (.cells #[.int .i64 0,.int .i64 0,.slice none 0 0] 26)).trans e1).trans ((xr w1).alloc (.cells #[.int .i64 k0,.int .i64 n0,.slice A0 l0 c0] 26));have hb':=((xr w1).alloc (.cells #[.int .i64 k0,.int .i64 n0,.slice A0 l0 c0] 26)).blk e1.newBlk;obtain⟨s0,s1,s2,f0,f1,f2⟩:=own3 hb';clear hb' q2;go_wp2_with fail;exact bodyPost_ret (v:= .tuple #[.agg #[.int .i64 0,.int .i64 0,.slice none 0 0],.bool false]) (by simp[results,Tryz.results17,go_sem,s0,s1,s2]) rfl ⟨_,by rw[HR.out];rfl,by rw[HR.out];exact From.leaf _ _ _ _,((hx1.setCell (by simp) _).setCell (by simp) _).setCell (by simp) _⟩)
 |some y=>
  obtain⟨t,b⟩:=y;have C6:R=if s.data.toList≠ []/\b=s.data.toList.length/\fmtV t=s.data.toList then some t else none:=by rw[hR];exact y192 qj.symm
  have hne:s.data.toList≠ []:=by
   intro h;rw[h] at qj;rw[j146 (by simp)] at qj;cases qj
  have hbe:s.toList.isEmpty=false:=by rw[fo];cases hq:s.data.toList with|nil=> exact absurd hq hne|cons=> rfl
  have Pu:(s.toList== [])=false:=by rw[fo];cases hq:s.data.toList with|nil=> exact absurd hq hne|cons=> rfl
  have hbe3: ¬(s.toList= []):=by rw[fo];exact hne
  rw[hlen] at C6;by_cases hb:b=s.size
  · obtain⟨fv,su⟩: ∃fv,fv=fmtV t:=⟨_,rfl⟩
    rw[<-su] at C6;have HF:=hdq (fun W v (h:Lies W t v)=> j97 t W v h);rw[<-su] at HF;have t1:((b:Int) !=(s.size:Int))=false:=by simp[hb]
    obtain⟨bq,hbq⟩: ∃bq,((ofL fv).toList==s.toList)=bq:=⟨_,rfl⟩;have hRb:R=if bq=true then some t else none:=by
     rw[C6,<-hbq,j85,fo];by_cases hq:fv=s.data.toList
     · rw[if_pos ⟨hne,hb,hq⟩,if_pos (by rw[hq];simp)]
     · rw[if_neg (fun h=> hq h.2.2),if_neg (by simpa using hq)]
    have HR:=hdq hRb;have HFV:=hdq hbq;clear hR qj C6 hne fo su hRb hlen hb;go_enter Tryz.func17,Tryz.ntmps17;go_wp2_with fail;refine(HP.out _).mono ?_;rintro e w1 ⟨t',u,nx,rfl,hF,e1,q1,-⟩;obtain⟨h1,h2,h3⟩:=q1 _ rfl;simp only at h1 h2 h3;subst h1 h2;obtain⟨k0,n0,A0,l0,c0,rfl⟩:=hF.three;have hsz:=e1.size_alloc;have hx1:=(((xr w).alloc (.cells #[.int .i64 0,.int .i64 0,.slice none 0 0] 26)).trans e1).trans ((xr w1).alloc (.cells #[.int .i64 k0,.int .i64 n0,.slice A0 l0 c0] 26));have hb':=((xr w1).alloc (.cells #[.int .i64 k0,.int .i64 n0,.slice A0 l0 c0] 26)).blk e1.newBlk;have ng:=heap_alloc_new w1 (.cells #[.int .i64 k0,.int .i64 n0,.slice A0 l0 c0] 26);have hFT:From (w.heap.size+1) (w1.alloc (.cells #[.int .i64 k0,.int .i64 n0,.slice A0 l0 c0] 26)) t' (.agg #[.int .i64 k0,.int .i64 n0,.slice A0 l0 c0]):=by simpa using hF.ext ((xr w1).alloc (.cells #[.int .i64 k0,.int .i64 n0,.slice A0 l0 c0] 26))
    clear hF hsz q1;go_wp2_with fail;refine(HF.out _ _ hFT.lies).mono ?_;rintro e w2 ⟨rfl,e2⟩;have hx2:=hx1.trans e2;have hF2:=hFT.ext e2;obtain⟨s0,s1,s2,f0,f1,f2⟩:=own3 (e2.blk hb');obtain⟨x0,x1,x2,-,-,-⟩:=own3 (e2.blk ng);have hq:=HFV.out;clear hb' ng;cases bq with
    |false=>
     go_wp2_with fail;exact bodyPost_ret (v:= .tuple #[.agg #[.int .i64 0,.int .i64 0,.slice none 0 0],.bool false]) (by simp[results,Tryz.results17,go_sem,s0,s1,s2]) rfl ⟨_,by rw[HR.out];rfl,by rw[HR.out];exact From.leaf _ _ _ _,((hx2.setCell (by simp) _).setCell (by simp) _).setCell (by simp) _⟩
    |true=>
     go_wp2_with fail;exact bodyPost_ret (v:= .tuple #[.agg #[.int .i64 k0,.int .i64 n0,.slice A0 l0 c0],.bool true]) (by simp[results,Tryz.results17,go_sem,s0,s1,s2]) rfl ⟨_,by rw[HR.out];rfl,by rw[HR.out];exact(((hF2.set (by simp) _).set (by simp) _).set (by simp) _).since (by omega),((hx2.setCell (by simp) _).setCell (by simp) _).setCell (by simp) _⟩
  · have J3:R=none:=by rw[C6,if_neg (fun h=> hb h.2.1)]
    have HR:=hdq J3;have t1:((b:Int) !=(s.size:Int))=true:=by rw[bne_iff_ne];omega
    clear hR qj C6 hne fo J3 hlen hb;go_enter Tryz.func17,Tryz.ntmps17;go_wp2_with fail;refine(HP.out _).mono ?_;rintro e w1 ⟨t',u,nx,rfl,hF,e1,q1,-⟩;obtain⟨h1,h2,h3⟩:=q1 _ rfl;simp only at h1 h2 h3;subst h1 h2;obtain⟨k0,n0,A0,l0,c0,rfl⟩:=hF.three;have hx1:=(((xr w).alloc (.cells #[.int .i64 0,.int .i64 0,.slice none 0 0] 26)).trans e1).trans ((xr w1).alloc (.cells #[.int .i64 k0,.int .i64 n0,.slice A0 l0 c0] 26));have hb':=((xr w1).alloc (.cells #[.int .i64 k0,.int .i64 n0,.slice A0 l0 c0] 26)).blk e1.newBlk;obtain⟨s0,s1,s2,f0,f1,f2⟩:=own3 hb';clear hb' q1;go_wp2_with fail;exact bodyPost_ret (v:= .tuple #[.agg #[.int .i64 0,.int .i64 0,.slice none 0 0],.bool false]) (by simp[results,Tryz.results17,go_sem,s0,s1,s2]) rfl ⟨_,by rw[HR.out];rfl,by rw[HR.out];exact From.leaf _ _ _ _,((hx1.setCell (by simp) _).setCell (by simp) _).setCell (by simp) _⟩
end Go.Proofs.YtbnkbepgmenblaaGreatDoor
namespace Go.Proofs.YtbnkbepgmenblaaGreatDoor
open Go.RowKit
attribute [local go_sem ↓] Go.wp_at_zero Go.wp_at_succ
def y108(W w:World)(e:TypeId)(v:Value)(ks:List Tr):Prop:= ∃xs,w.ownsRow W.heap.size e 3 v ks.length xs/\RowL w (fun b=> b < W.heap.size) xs ks
theorem y108.nil(W w:World)(e:TypeId):y108 W w e (.slice none 0 0) []:=⟨[],World.ownsRow_nil _ _ _ _,RowL.nil⟩
theorem y108.set{W w:World}{e:TypeId}{v:Value}{ks:List Tr}(h:y108 W w e v ks){p:Addr}(hp:v.ownBlock≠some p.block)(hW:W.heap.size<=p.block)(u:Value):y108 W (w.setCell p u) e v ks:=by
 obtain⟨xs,h1,h2⟩:=h;exact⟨xs,j24 h1 (fun g hg=> Below.heap_setCell w p u g (fun e=> hp (by rw[<-e];exact hg))),h2.mono (fun _ h=> h) (fun b hb=> Below.heap_setCell w p u b (by omega))⟩
theorem y108.form{W w:World}{e:TypeId}{v:Value}{ks:List Tr}(h:y108 W w e v ks): ∃B c,v= .slice B ks.length c:=by
 obtain⟨xs,h1,h2⟩:=h;rcases h1.2 with⟨rfl,h0⟩ |⟨g,cap,cur,rfl,_⟩
 · exact⟨none,0,by rw[h0]⟩
 · exact⟨_,cap,rfl⟩
theorem y108.lt{W w:World}{e:TypeId}{v:Value}{ks:List Tr}(h:y108 W w e v ks){g:Nat}(hg:v.ownBlock=some g):W.heap.size<=g/\g < w.heap.size:=by
 obtain⟨xs,h1,h2⟩:=h;exact h1.lt g hg
theorem q197{k n i:Int}{ks:List Tr}{q:List Int}:atT (.mk k n ks) (i::q)=if 0<=i/\i < ks.length then atT (kd ks i.toNat) q else none:=by rw[atT]
def outP(t:Tr):List Int:=(outT t).getD []
def OutC(t:Tr):Prop:= ∀(w:World) (v:Value) (d:Int),shape sigT t d=true->Lies w t v->d<=1000->Calls Tryz.prog 36 #[v] w fun e w'=> ∃x,e= .returned (.tuple #[x,.bool (outT t).isSome])/\w'.ownsRow w.heap.size 3 1 x (outP t).length ((outP t).map (Value.int .i64))/\Ext w w'
theorem y177: ∀t:Tr,OutC t:=Tr.ind fun k n ks hk=> by
 intro w v d hsh j8 hd;have HR:=hdq (fun V (hV:Ext w V)=> q31 (.mk k n ks) d hsh V v (j8.ext hV));have hol:=y116 (.mk k n ks) d hsh;obtain⟨-,-,-,hsk⟩:=j29 hsh;obtain⟨A,cap,rfl,hl,hc,hK⟩:=Lies.mk_iff.1 j8;obtain⟨i0,hi,hz0,hz1,hz2⟩:=info_parts y140;have hcc:=hc;unfold maxLen at hcc;have ho:outT (.mk k n ks)=if rdx k ks=0 then q46 0 ks else some []:=by rw[outT]
 have hx0:=(xr w).alloc (.cells #[.int .i64 k,.int .i64 n,.slice A ks.length cap] 26);have N5:=heap_alloc_new w (.cells #[.int .i64 k,.int .i64 n,.slice A ks.length cap] 26);obtain⟨r,hr⟩: ∃r,rdx k ks=r:=⟨_,rfl⟩;have U9:=hdq (show∀V,Ext w V->Calls Tryz.prog 72 #[.agg #[.int .i64 k,.int .i64 n,.slice A ks.length cap]] V fun e w'=> e= .returned (.int .i64 r)/\Ext V w' from fun V hV=> by have:=HR.out V hV;rw[show rdxT (.mk k n ks)=r from hr] at this;exact this);rw[hr] at ho;clear hr HR;by_cases h0:r=0
 · rw[if_pos h0] at ho
   have hb0:(r !=0)=false:=by rw[h0];rfl
   subst h0;have HO:=hdq ho;clear ho j8;go_enter Tryz.func36,Tryz.ntmps36;go_wp2_with fail;refine(U9.out _ hx0).mono ?_;rintro e w1 ⟨rfl,h1⟩;obtain⟨z0,z1,z2,-,-,-⟩:=own3 (h1.blk N5);have lz:=j10 (h1.blk N5);have hx1:=hx0.trans h1;clear N5 h1 hx0 U9;go_wp2_with fail;clear z0 z1 z2 lz
   go_loopw [14] (fun i wr=> ∃(j:Nat),j<=ks.length/\i= .int .i64 j/\Hid (q46 0 ks=q46 j (ks.drop j))/\Ext w wr) (fun i _=> ks.length -(intOf i).toNat)
   case atStart=> exact⟨0,Nat.zero_le _,rfl,hdq rfl,hx1⟩
   case round=>
    obtain⟨j,hj',rfl,HE,hx⟩:=hrel;by_cases hlt:j < ks.length
    · obtain⟨b,o,k',n',A',cap',kids,rfl,HK,c0,c1,c2,I6,G9,hK',C8,j6⟩:=hK.get hx hlt
      have hst:q46 j (ks.drop j)=match outT (.mk k' n' kids) with|some p=> some ((j:Int)::p) |none=> q46 (j+1) (ks.drop (j+1)):=by
       rw[List.drop_eq_getElem_cons hlt,HK.out];conv=> lhs;unfold q46
       rfl
      have qh:=y116 (.mk k' n' kids) (d - 1) (hsk _ j6);have pw:=(xr wr).alloc (.cells #[.int .i64 k',.int .i64 n',.slice A' kids.length cap'] 26);have HC:=hdq (hk _ j6 _ _ (d - 1) (hsk _ j6) (C8.ext pw) (by omega));have hpe:outP (.mk k' n' kids)=(outT (.mk k' n' kids)).getD []:=rfl;rw[hpe] at HC;clear hpe;generalize outT (.mk k' n' kids)=q at hst qh HC;have ib:(j:Int) <(ks.length:Int):=by omega
      clear hol C8;go_wp2_with fail;refine HC.out.mono ?_;rintro e w2 ⟨x,rfl,hq,h2⟩;have hx2:=(hx.trans pw).trans h2;cases q with
      |some p=>
       have hpl:=qh p rfl;simp only[Option.getD_some] at hq;simp only at hst;have S8:=hdq ((HO.out.trans HE.out).trans hst);have Y3:=j25 hq;obtain⟨Bq,cq,rfl,-,-,-⟩:=y25 hq;have hx3:=(xr w2).alloc (.cells #[.int .i64 j] 3);have hG:(w2.alloc (.cells #[.int .i64 j] 3)).ownsRow w2.heap.size 3 1 (.slice (some ⟨w2.heap.size,0,none⟩) 1 1) ([(j:Int)]).length (([(j:Int)]).map (Value.int .i64)):=World.ownsRow_lit w2 #[.int .i64 j] 1 (Nat.le_refl _) (by decide) rfl;have Q3:=Y3.ext hx3;clear hst HC HE HO Y3 hq qh;go_wp2_with (at_builtin;refine j19 _ rfl (.tmp 26) (.tmp 27) 49 rfl w2.heap.size 3 i0 _ 8 Tryz.underlying49 hi hz0 hz1 hz2 (by decide) rfl (ns:= [(j:Int)]) (p:=p) rfl hG (by simp) rfl Q3 (by simp;omega) ?_)
       intro va wa ap Z2 kx;have lp:Ext w wa:=hx2.trans (hx3.grown Z2 (by intro g hg;simp[Value.ownBlock] at hg;omega));have hsz:=hx2.size;have W6:wa.ownsRow w.heap.size 3 1 va ((j:Int)::p).length ((((j:Int)::p)).map (Value.int .i64)):=y26 ap hsz;have kh:=hdq W6;clear ap Z2 kx W6;go_wp2_with fail;go_ret2;have Co:outP (.mk k n ks)=(j:Int)::p:=by unfold outP;rw[S8.out];rfl
       exact⟨_,by rw[S8.out];rfl,by rw[Co];exact kh.out,lp⟩
      |none=>
       simp only at hst;have Fo:=hdq (HE.out.trans hst);clear hst HC hq qh;go_wp2_with fail
       go_roundw
       case rel=> exact⟨j+1,by omega,by go_num,Fo,hx2⟩
       case measure=> simp[intOf];omega
    · have S8:=hdq ((HO.out.trans HE.out).trans (show q46 j (ks.drop j)=none by rw[List.drop_of_length_le (by omega),q46]))
      clear HE HO;go_wp2_with fail;go_ret2;have Co:outP (.mk k n ks)= []:=by unfold outP;rw[S8.out];rfl
      exact⟨_,by rw[S8.out];rfl,by rw[Co];exact World.ownsRow_nil _ _ _ _,hx⟩
 · rw[if_neg h0] at ho
   have hb0:(r !=0)=true:=bne_iff_ne.2 h0;have HO:=hdq ho;clear ho;go_enter Tryz.func36,Tryz.ntmps36;go_wp2_with fail;refine(U9.out _ hx0).mono ?_;rintro e w1 ⟨rfl,h1⟩;go_wp2_with fail;go_ret2;have Co:outP (.mk k n ks)= []:=by unfold outP;rw[HO.out];rfl
   exact⟨_,by rw[HO.out];rfl,by rw[Co];exact World.ownsRow_nil _ _ _ _,hx0.trans h1⟩
theorem From.only{B:Nat}{w w':World}{t:Tr}{v:Value}{L:List Nat}(h:From B w t v)(ho:Only L w w')(hL: ∀b,b∈L->b < B):From B w' t v:=
 h.mono (fun b hb=>⟨hb.1,Nat.lt_of_lt_of_le hb.2 ho.size⟩) (fun b hb=> ho.block b hb.2 (fun hm=> by have:=hL b hm;omega))
theorem q177: ∀(a:List Int) (t u:Tr),atT t a=some u->cnt u<=cnt t
 | [],t,u,e=> by
  have e:t=u:=by cases t;simpa[atT] using e
  subst e;exact Nat.le_refl _
 |i::a,.mk k n ks,u,e=> by
  rw[atT] at e
  split at e
  · rename_i hi
    have h1:=q177 a _ u e;have h2:=q16 (q77 (ks:=ks) (i:=i.toNat) (by omega));rw[cnt];omega
  · cases e
end Go.Proofs.YtbnkbepgmenblaaGreatDoor
namespace Go.Proofs.YtbnkbepgmenblaaGreatDoor
open Go.RowKit
def j53(W w:World)(e:TypeId)(v:Value)(ks:List Tr)(n:Nat):Prop:=
 ks.length=n*2/\ ∃xs,w.ownsRow W.heap.size e 6 v n xs/\RowL w (fun b=> W.heap.size<=b/\b < w.heap.size/\v.ownBlock≠some b) xs ks
theorem q117{w w':World}{base:Nat}{e:TypeId}{v:Value}{n:Nat}{xs:List Value}(h:w.ownsRow base e 6 v n xs)(hb: ∀g,v.ownBlock=some g->w'.heap[g]? =w.heap[g]?):w'.ownsRow base e 6 v n xs:=by
 refine⟨h.1, ?_⟩;rcases h.2 with h|⟨g,cap,cur,rfl,h1,h2,r⟩
 · exact .inl h
 · exact .inr ⟨g,cap,cur,rfl,h1,(hb g rfl).trans h2,r⟩
theorem j53.nil(W w:World)(e:TypeId):j53 W w e (.slice none 0 0) [] 0:=⟨rfl, [],World.ownsRow_nil _ _ _ _,RowL.nil⟩
theorem j53.same{W w w':World}{e:TypeId}{v:Value}{ks:List Tr}{n:Nat}(h:j53 W w e v ks n)(hs:w.heap.size<=w'.heap.size)(hb: ∀b,W.heap.size<=b->b < w.heap.size->w'.heap[b]? =w.heap[b]?):j53 W w' e v ks n:=by
 obtain⟨h0,xs,h1,h2⟩:=h;exact⟨h0,xs,q117 h1 (fun g hg=> hb g (h1.lt g hg).1 (h1.lt g hg).2),h2.mono (fun b hb=>⟨hb.1,Nat.lt_of_lt_of_le hb.2.1 hs,hb.2.2⟩) (fun b hm=> hb b hm.1 hm.2.1)⟩
theorem j53.only{W w w':World}{e:TypeId}{v:Value}{ks:List Tr}{n:Nat}{L:List Nat}(h:j53 W w e v ks n)(ho:Only L w w')(hL: ∀b,b∈L->b < W.heap.size):j53 W w' e v ks n:=
 h.same ho.size (fun b hW hb=> ho.block b hb (fun hm=> by have:=hL b hm;omega))
theorem j53.slice{W w:World}{e:TypeId}{v:Value}{ks:List Tr}{n:Nat}(h:j53 W w e v ks n): ∃A cap,v= .slice A n cap/\n<=cap/\cap<=maxLen/\j35 W.heap.size w A ks:=by
 obtain⟨h0,xs,h1,h2⟩:=h;rcases h1.2 with⟨rfl,h3⟩ |⟨g,cap,cur,rfl,hb,hg,ey,hcm,hcs,ht⟩
 · have:ks= []:=List.eq_nil_of_length_eq_zero (by omega)
   subst this;exact⟨none,0,by rw[h3],by omega,Nat.zero_le _,.inl rfl⟩
 · refine⟨_,cap,rfl,ey,hcm,.inr ⟨g,0,rfl,⟨hb,j10 hg⟩, ?_⟩⟩
   have h3:=RowL.tail (cur.toList.drop (n*6)) (h2.mono (S':=fun b=> W.heap.size<=b/\b < w.heap.size) (fun b hb=>⟨hb.1,hb.2.1⟩) (fun _ _=> rfl));rw[<-ht,List.take_append_drop] at h3;exact RowL.inL hg (pre:= []) h3 (by simp)
theorem j53.cap{W w:World}{e:TypeId}{A:Option Addr}{n cap n':Nat}{ks:List Tr}(h:j53 W w e (.slice A n cap) ks n'):A=none->cap=0:=by
 obtain⟨h0,xs,h1,h2⟩:=h;intro hA;rcases h1.2 with⟨h3,-⟩ |⟨g,c,cur,h3,-⟩
 · simp only[Value.slice.injEq] at h3
   exact h3.2.2
 · simp only[Value.slice.injEq] at h3
   rw[hA] at h3;cases h3.1
theorem RowL.append{w:World}{S:Nat->Prop}{ys:List Value}{ts:List Tr}(ht:RowL w S ys ts): ∀{xs:List Value} {ks:List Tr},xs.length=ks.length*3->RowL w S xs ks->RowL w S (xs++ys) (ks++ts)
 |xs, [],hx,h=> by
  have hx0:xs= []:=List.eq_nil_of_length_eq_zero (by simpa using hx);subst hx0;exact ht
 |xs,x::ks,hx,h=> by
  obtain⟨u0,u1,u2,rest,rfl,h1,h2⟩:=RowL.cons_iff.1 h;exact RowL.cons_iff.2 ⟨u0,u1,u2,_,rfl,h1,RowL.append ht (by simp only[List.length_cons] at hx;omega) h2⟩
theorem RowL.two{w:World}{S:Nat->Prop}{t u:Tr}{v0 v1 v2 v3 v4 v5:Value}(h1:InT w S t (.agg #[v0,v1,v2]))(h2:InT w S u (.agg #[v3,v4,v5])):RowL w S [v0,v1,v2,v3,v4,v5] [t,u]:=
 RowL.cons_iff.2 ⟨v0,v1,v2,_,rfl,h1,RowL.cons_iff.2 ⟨v3,v4,v5,_,rfl,h2,RowL.nil⟩⟩
theorem j53.row{W w:World}{e:TypeId}{v:Value}{ks:List Tr}{n:Nat}(h:j53 W w e v ks n)(hn:0 < n): ∃g cap,v= .slice (some ⟨g,0,none⟩) n cap/\W.heap.size<=g/\g < w.heap.size/\n<=cap/\cap<=maxLen/\
 ∀j,j < n*6-> ∃x,w.cell? ⟨g,j,none⟩=some x/\w.frozen? ⟨g,j,none⟩=false:=by
 obtain⟨h0,xs,h1,h2⟩:=h;rcases h1.2 with⟨rfl,h3⟩ |⟨g,cap,cur,rfl,hb,hg,ey,hcm,hcs,ht⟩
 · omega
 · exact⟨g,cap,rfl,hb,j10 hg,ey,hcm,fun j hj=>⟨cur[j]'(by rw[hcs];omega),by rw[q10 hg];exact Array.getElem?_eq_getElem _,q14 hg _⟩⟩
theorem j53.set{W w:World}{e:TypeId}{g cap n j:Nat}{ks:List Tr}{t:Tr}{v0 v1 v2:Value}(h:j53 W w e (.slice (some ⟨g,0,none⟩) n cap) ks n)(hj:j < ks.length)
 (ht:InT w (fun b=> W.heap.size<=b/\b < w.heap.size/\b≠g) t (.agg #[v0,v1,v2])):
 j53 W (((w.setCell ⟨g,j*3,none⟩ v0).setCell ⟨g,j*3+1,none⟩ v1).setCell ⟨g,j*3+2,none⟩ v2) e (.slice (some ⟨g,0,none⟩) n cap) (ks.set j t) n:=by
 obtain⟨h0,xs,h1,h2⟩:=h;rcases h1.2 with⟨h3,h4⟩ |⟨g',cap',cur,he,hb,hg,ey,hcm,hcs,eh⟩
 · rw[h4] at h0;omega
 · simp only[Value.slice.injEq,Option.some.injEq,Addr.mk.injEq,and_true,true_and] at he
   obtain⟨rfl,rfl⟩:=he;have q1:=q11 (q11 (q11 hg (j*3) v0) (j*3+1) v1) (j*3+2) v2;have q2: ∀b,b≠g->(((w.setCell ⟨g,j*3,none⟩ v0).setCell ⟨g,j*3+1,none⟩ v1).setCell ⟨g,j*3+2,none⟩ v2).heap[b]? =w.heap[b]? :=fun b hne=> by
    rw[Below.heap_setCell _ _ _ _ hne,Below.heap_setCell _ _ _ _ hne,Below.heap_setCell _ _ _ _ hne]
   have hlx:xs.length=ks.length*3:=by rw[h1.1,h0];omega
   refine⟨by simpa using h0,((xs.set (j*3) v0).set (j*3+1) v1).set (j*3+2) v2,⟨by simpa using h1.1,.inr ⟨g,cap,_,rfl,hb,q1,ey,hcm,by simpa using hcs, ?_⟩⟩, ?_⟩
   · simp only[Array.toList_setIfInBounds,List.take_set,eh]
   · have hmn:RowL (((w.setCell ⟨g,j*3,none⟩ v0).setCell ⟨g,j*3+1,none⟩ v1).setCell ⟨g,j*3+2,none⟩ v2) (fun b=> W.heap.size<=b/\b <(((w.setCell ⟨g,j*3,none⟩ v0).setCell ⟨g,j*3+1,none⟩ v1).setCell ⟨g,j*3+2,none⟩ v2).heap.size/\(Value.slice (some ⟨g,0,none⟩) n cap).ownBlock≠some b) xs ks:=
      h2.mono (fun b hb=>⟨hb.1,by simpa using hb.2.1,hb.2.2⟩) (fun b hb=> q2 b (fun he=> hb.2.2 (by rw[he];rfl)))
     refine RowL.set (InT.mono (fun b hb=>⟨hb.1,by simpa using hb.2.1,fun he=> hb.2.2 (by simpa[Value.ownBlock] using he.symm)⟩) (fun b hb=> q2 b hb.2.2) ht) j hmn
end Go.Proofs.YtbnkbepgmenblaaGreatDoor
