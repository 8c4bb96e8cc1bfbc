/-
  Lemmas towards the law, 22: Parse6, OrdS, Walked, Parse7.
-/
import Derived.Test.YtdkamgafpphdjaaGreatTAT
import Derived.Test.YtdkamgafpphdjaaGreatTAU
namespace Go.Proofs.YtdkamgafpphdjaaGreat
open Go.RowKit
set_option linter.unusedVariables false
set_option maxRecDepth 100000 in
set_option maxHeartbeats 2000000 in
theorem q206(d:Nat)(hd:d<=30)(ih:q29 d)(s:ByteArray)(a:Nat)(w:World)(hs:s.size<=1000000000)(ha:a < s.size)(hc:s[a]=91):
 Calls Tryz.prog 192 #[.string s, .int .i64 a, .int .i64 ((d:Int)+1)] w (j19 w.heap.size w s.size (prs (d+1) s.data.toList a)):=by
 have hR0:prs (d+1) s.data.toList a=sqr (prs d s.data.toList) s.data.toList (a+1):=by rw[j43 (j48 ha hc)];rfl
 rw[hR0];clear hR0;have HI:=hdq (fun(a:Nat) (A:Int) (hA:A=a) W (ha:a<=s.size+2)=>(show Calls Tryz.prog 192 #[.string s, .int .i64 A, .int .i64 d] W (j19 W.heap.size W s.size (prs d s.data.toList a)) from by subst hA;exact ih s a W hs ha));obtain⟨F,hF⟩: ∃F,F=prs d s.data.toList:=⟨_,rfl⟩;rw[<-hF] at HI⊢;have hdef:sqr F s.data.toList (a+1)=match F (a+1) with
  |none=> none
  |some (x,b)=> if s.data.toList[b]? =some 93 then(match F (b+1) with|none=> none|some (y,c)=> some (.mk 4 0 [x,y],c)) else none:=rfl
 obtain⟨R,hR⟩: ∃R,R=sqr F s.data.toList (a+1):=⟨_,rfl⟩;rw[<-hR] at hdef⊢;have HD:=hdq hdef;clear hR ih hF hdef;go_enter Tryz.func192,Tryz.ntmps192;go_wp2_with fail;refine(HI.out (a+1) _ (by omega) _ (by omega)).mono ?_;rintro e w1 ⟨t,u,nx,rfl,hF,e1,q1,q2⟩;obtain⟨k0,n0,A0,l0,c0,rfl⟩:=hF.three;have hb:=e1.newBlk;have hsz:=e1.size_alloc;have hx0:=((xr w).alloc (.cells #[.int .i64 0, .int .i64 0, .slice none 0 0] 25)).trans e1;have hx1:=hx0.trans ((xr w1).alloc (.cells #[.int .i64 k0, .int .i64 n0, .slice A0 l0 c0] 25));have hF1:=hF.ext ((xr w1).alloc (.cells #[.int .i64 k0, .int .i64 n0, .slice A0 l0 c0] 25));simp only[World.size_alloc] at hF1;have hb':=((xr w1).alloc (.cells #[.int .i64 k0, .int .i64 n0, .slice A0 l0 c0] 25)).blk hb;have hbA:=heap_alloc_new w1 (.cells #[.int .i64 k0, .int .i64 n0, .slice A0 l0 c0] 25);cases hFa:F (a+1) with
 |none=>
  obtain rfl:=q2 hFa;have hRn:=HD.out;rw[hFa] at hRn;have HR:=hdq hRn;obtain⟨s0,s1,s2,f0,f1,f2⟩:=own3 hb';clear q1 q2 hRn hFa hsz;go_wp2_with fail;exact bodyPost_ret (v:= .tuple #[.agg #[.int .i64 0, .int .i64 0, .slice none 0 0], .int .i64 (-1)]) (by simp[results,Tryz.results192,go_sem,s0,s1,s2]) rfl (j63 _ _ _ _ _ HR.out (((hx1.setCell (by simp) _).setCell (by simp) _).setCell (by simp) _))
 |some y=>
  obtain⟨x,b⟩:=y;obtain⟨h1,h2,h3⟩:=q1 _ hFa;simp only at h1 h2 h3;have hRs:=HD.out;rw[hFa] at hRs;simp only at hRs;subst h1 h2;clear q1 q2 hFa;have t0:decide ((b:Int) < 0)=false:=decide_eq_false (by omega);by_cases hlt:b < s.size
  · obtain⟨c,hcc⟩: ∃c,s[b]=c:=⟨_,rfl⟩
    rw[j48 hlt hcc] at hRs;have hbz:(b:Int) <(s.size:Int):=by omega
    have t1:decide ((s.size:Int)<=(b:Int))=false:=decide_eq_false (by omega);obtain⟨m,hm⟩: ∃m,c.toNat=m:=⟨_,rfl⟩;by_cases h93:c=93
    · have hm93:m=93:=by rw[<-hm,h93];rfl
      rw[if_pos (by rw[h93])] at hRs;subst hm93;have HRS:=hdq hRs;clear hRs h93;go_wp2_with fail;refine(HI.out (b+1) _ (by omega) _ (by omega)).mono ?_;rintro e w2 ⟨t',u',nx',rfl,hF',e2,q1,q2⟩;obtain⟨k1,n1,A1,l1,c1,rfl⟩:=hF'.three;have hs2:=e2.size_alloc;have hxa:=e2.trans ((xr w2).alloc (.cells #[.int .i64 k1, .int .i64 n1, .slice A1 l1 c1] 25));have hb2:=hxa.blk hb';have hbA2:=hxa.blk hbA;have hbB:=heap_alloc_new w2 (.cells #[.int .i64 k1, .int .i64 n1, .slice A1 l1 c1] 25);obtain⟨x0,x1,x2,-,-,-⟩:=own3 hbA2;have hx2:=hx1.trans hxa;have hF2:=hF1.ext hxa;have hF2':=(hF'.ext ((xr w2).alloc (.cells #[.int .i64 k1, .int .i64 n1, .slice A1 l1 c1] 25))).since (show w.heap.size+1<=_ by simp;omega);have HQ1:=hdq q1;have HQ2:=hdq q2;clear q1 q2 hs2;go_wp2_with fail;refine(q15 (w.heap.size+1) _ 4 _ 2 [t,t'] (by intro h;cases h) (y13.two (g:=w2.heap.size+1) (e:=25) hF2 hF2' (by have:=e2.size_alloc;simp;omega) (by simp)) (by have:=e2.size_alloc;simp;omega) (by simp)).mono ?_;rintro e w3 ⟨v,rfl,hN,e3⟩;obtain⟨k3,n3,A3,l3,c3,rfl⟩:=hN.three;obtain⟨z0,z1,z2,g0,g1,g2⟩:=own3 (e3.blk (((xr _).alloc _).blk hb2));have hx3:=hx2.trans (((xr _).alloc _).trans e3);clear x0 x1 x2;go_wp2_with fail;refine bodyPost_ret (v:= .tuple #[.agg #[.int .i64 k3, .int .i64 n3, .slice A3 l3 c3], .int .i64 nx']) (by simp[results,Tryz.results192,go_sem,z0,z1,z2]) rfl ⟨_,_,_,rfl,(((hN.set (by simp) _).set (by simp) _).set (by simp) _).since (by omega),((hx3.setCell (by simp) _).setCell (by simp) _).setCell (by simp) _, ?_, ?_⟩
      · intro x hx
        rw[HRS.out] at hx;cases hFb:F (b+1) with
        |none=> rw[hFb] at hx;cases hx
        |some y2=>
         rw[hFb] at hx;cases hx
         obtain⟨g1,g2,g3⟩:=HQ1.out _ hFb;exact⟨by rw[g1],g2,g3⟩
      · intro hx
        rw[HRS.out] at hx;cases hFb:F (b+1) with
        |none=> exact HQ2.out hFb
        |some y2=> rw[hFb] at hx;cases hx
    · rw[if_neg (by intro h;cases h;exact h93 rfl)] at hRs
      have HR:=hdq hRs;have t7:((m:Int) !=93)=true:=by rw[bne_iff_ne];intro h;exact h93 (UInt8.toNat_inj.1 (by rw[hm];simp;omega))
      obtain⟨s0,s1,s2,f0,f1,f2⟩:=own3 hb';clear hRs h93 hsz;go_wp2_with fail;exact bodyPost_ret (v:= .tuple #[.agg #[.int .i64 0, .int .i64 0, .slice none 0 0], .int .i64 (-1)]) (by simp[results,Tryz.results192,go_sem,s0,s1,s2]) rfl (j63 _ _ _ _ _ HR.out (((hx1.setCell (by simp) _).setCell (by simp) _).setCell (by simp) _))
  · rw[q51 s (by omega),if_neg (by simp)] at hRs
    have HR:=hdq hRs;have t1:decide ((s.size:Int)<=(b:Int))=true:=decide_eq_true (by omega);obtain⟨s0,s1,s2,f0,f1,f2⟩:=own3 hb';clear hRs hsz;go_wp2_with fail;exact bodyPost_ret (v:= .tuple #[.agg #[.int .i64 0, .int .i64 0, .slice none 0 0], .int .i64 (-1)]) (by simp[results,Tryz.results192,go_sem,s0,s1,s2]) rfl (j63 _ _ _ _ _ HR.out (((hx1.setCell (by simp) _).setCell (by simp) _).setCell (by simp) _))
theorem y48{c:UInt8}{p:Nat}{v:UInt8}(hp:c.toNat=p)(h:c≠v):((p:Int)==(v.toNat:Int))=false:=by
 rw[beq_eq_false_iff_ne];intro e;exact h (UInt8.toNat_inj.1 (by rw[hp];omega))
set_option maxRecDepth 100000 in
set_option maxHeartbeats 1000000 in
theorem y212(d:Nat)(hd:d<=30)(s:ByteArray)(a:Nat)(w:World)(hs:s.size<=1000000000)(ha:a < s.size)(c:UInt8)(hc:s[a]=c)
 (h1:c≠35) (h2:c≠42) (h3:c≠78) (h4:c≠48) (h5:c≠43) (h6:c≠33) (h7:c≠94) (h8:c≠95) (h9:c≠40) (h10:c≠91) (hk:blkK c=0):
 Calls Tryz.prog 192 #[.string s, .int .i64 a, .int .i64 ((d:Int)+1)] w (j19 w.heap.size w s.size (prs (d+1) s.data.toList a)):=by
 have HI:=hdq (fun W=> q214 d hd s a W hs ha c hc hk);have hR:=j43 (d:=d) (j48 ha hc);rw[if_neg h1,if_neg h2,if_neg h3,if_neg h4,if_neg h5,if_neg h6,if_neg h7,if_neg h8,if_neg h9,if_neg h10] at hR;rw[hR];obtain⟨p,hp⟩: ∃p,c.toNat=p:=⟨_,rfl⟩;have t1:((p:Int)==35)=false:=y48 hp h1;have t2:((p:Int)==42)=false:=y48 hp h2;have t3:((p:Int)==78)=false:=y48 hp h3;have t4:((p:Int)==48)=false:=y48 hp h4;have t5:((p:Int)==43)=false:=y48 hp h5;have t6:((p:Int)==33)=false:=y48 hp h6;have t7:((p:Int)==94)=false:=y48 hp h7;have t8:((p:Int)==95)=false:=y48 hp h8;have t9:((p:Int)==40)=false:=y48 hp h9;have t10:((p:Int)==91)=false:=y48 hp h10;clear hR h1 h2 h3 h4 h5 h6 h7 h8 h9 h10 hk;go_enter Tryz.func192,Tryz.ntmps192;go_wp2_with fail;refine(HI.out _).mono ?_;intro e w1 hq;obtain⟨t,k1,n1,A1,l1,c1,nx,rfl,hF,e1,HQ⟩:=hq.on;obtain⟨s0,s1,s2,f0,f1,f2⟩:=own3 e1.newBlk;have hsz:=e1.size_alloc;have hE:=((xr w).alloc (.cells #[.int .i64 0, .int .i64 0, .slice none 0 0] 25)).trans e1;have hF':From (w.heap.size+1) w1 t (.agg #[.int .i64 k1, .int .i64 n1, .slice A1 l1 c1]):=by simpa using hF
 clear hq hF;go_wp2_with fail;exact bodyPost_ret (v:= .tuple #[.agg #[.int .i64 k1, .int .i64 n1, .slice A1 l1 c1], .int .i64 nx]) (by simp[results,Tryz.results192,go_sem,s0,s1,s2]) rfl ⟨t,_,nx,rfl,(((hF'.set (by simp) _).set (by simp) _).set (by simp) _).since (by omega),((hE.setCell (by simp) _).setCell (by simp) _).setCell (by simp) _,HQ.out.1,HQ.out.2⟩
set_option maxRecDepth 100000 in
theorem y161(s:ByteArray)(a:Nat)(w:World):Calls Tryz.prog 192 #[.string s, .int .i64 a, .int .i64 0] w (j19 w.heap.size w s.size none):=by
 go_enter Tryz.func192,Tryz.ntmps192;go_wp2_with fail;exact bodyPost_ret (v:= .tuple #[.agg #[.int .i64 0, .int .i64 0, .slice none 0 0], .int .i64 (-1)]) (by simp[results,Tryz.results192,go_sem]) rfl (j63 _ _ _ _ _ rfl ((xr w).alloc _))
set_option maxRecDepth 100000 in
theorem y177(d:Nat)(hd:d<=30)(s:ByteArray)(a:Nat)(w:World)(hs:s.size<=1000000000)(ha:s.size<=a):Calls Tryz.prog 192 #[.string s, .int .i64 a, .int .i64 ((d:Int)+1)] w (j19 w.heap.size w s.size none):=by
 have t0:decide ((a:Int) < 0)=false:=decide_eq_false (by omega);have t1:decide ((s.size:Int)<=(a:Int))=true:=decide_eq_true (by omega);go_enter Tryz.func192,Tryz.ntmps192;go_wp2_with fail;exact bodyPost_ret (v:= .tuple #[.agg #[.int .i64 0, .int .i64 0, .slice none 0 0], .int .i64 (-1)]) (by simp[results,Tryz.results192,go_sem]) rfl (j63 _ _ _ _ _ rfl ((xr w).alloc _))
theorem y137: ∀d:Nat,d<=30->q29 d
 |0,_=> fun s a w hs ha=> y161 s a w
 |d+1,hd=> by
  have ih:=y137 d (by omega);intro s a w hs ha;rw[show((d+1:Nat):Int)=(d:Int)+1 by omega];have hd':d<=30:=by omega
  rcases Nat.lt_or_ge a s.size with hlt|hge
  · obtain⟨c,hc⟩: ∃c,s[a]=c:=⟨_,rfl⟩
    by_cases h35:c=35
    · exact y211 d hd' s a w hs hlt (by rw[hc,h35])
    by_cases h42:c=42
    · exact j207 d hd' s a w hs hlt (by rw[hc,h42])
    by_cases h78:c=78
    · exact j216 d hd' s a w hs hlt (by rw[hc,h78])
    by_cases h48:c=48
    · exact j217 d hd' s a w hs hlt (by rw[hc,h48])
    by_cases h43:c=43
    · exact q217 d hd' ih s a w hs hlt (by rw[hc,h43])
    by_cases h33:c=33
    · exact y207 d hd' ih s a w hs hlt (by rw[hc,h33])
    by_cases h94:c=94
    · exact q208 d hd' ih s a w hs hlt (by rw[hc,h94])
    by_cases h95:c=95
    · exact y217 d hd' ih s a w hs hlt (by rw[hc,h95])
    by_cases h40:c=40
    · exact q210 d hd' ih s a w hs hlt (by rw[hc,h40])
    by_cases h91:c=91
    · exact q206 d hd' ih s a w hs hlt (by rw[hc,h91])
    by_cases h60:c=60
    · exact q202 d hd' ih s a w hs hlt (by rw[hc,h60])
    by_cases h123:c=123
    · exact q193 d hd' ih s a w hs hlt (by rw[hc,h123])
    by_cases h124:c=124
    · exact q185 d hd' ih s a w hs hlt (by rw[hc,h124])
    by_cases h64:c=64
    · exact j201 d hd' ih s a w hs hlt (by rw[hc,h64])
    exact y212 d hd' s a w hs hlt c hc h35 h42 h78 h48 h43 h33 h94 h95 h40 h91 (by unfold blkK;rw[if_neg h60,if_neg h123,if_neg h124,if_neg h64])
  · rw[y148 (q51 s hge)]
    exact y177 d hd' s a w hs hge
end Go.Proofs.YtdkamgafpphdjaaGreat
namespace Go.Proofs.YtdkamgafpphdjaaGreat
open Go.RowKit
set_option linter.unusedVariables false
theorem ordX{P:Program}{ops:Array Oper}{Q:Exit->Act->World->Prop}{l0:Array Bool}{a0:Act}{fuel:Nat}{ox:Oper}(W:World)(m N x:Nat)(lT lX:Array Bool)(fT:Nat)(l:List Sp)(hok1:OrdX.okX ops l0 m N x=true)(hN:a0.tmps.size=N)(hf:fuel=Ord.opnO l0 ops.size)(hlT:Ord.doneO l0 m=lT)(hfT:Ord.opnO lT ops.size=fT)
 (hox:ops[x]? =some ox) (hxm:x < m) (hxl:Ord.isOn l0 x=false) (hlX:lT.setIfInBounds x false=lX) (hns:Region.noSelect ops=true) (hfr:Region.free .any ops lX x=true) (hrd:(Region.ready .any ops lX).contains x=true)
 (hQ: ∀v c a w,Q (.panic c) (a.put ox.dst v) w->Q (.panic c) a w)
 (hX: ∀a w z,EG (W.drew, []) (w,z)->(∀t,Ord.isDst ops l0 m t=false->a.eval (.tmp t)=a0.eval (.tmp t))->(∀j d,Ord.depO ops l0 x j d=true->spGG l j (a.eval (.tmp d)) (w,z))-> ∃u,YieldsIf P ops (fun _=> True) ox u a/\spGG l x u (w,z))
 (steps:OrdG.StepsO P ops Q l0 m EG (spGG l) a0 (W.drew, []) 0 (ops.toList.take m))
 (fin: ∀(v:Nat->Value) w z,EG (W.drew, []) (w,z)->(∀j,j < m->Ord.isOn l0 j=false->spGG l j (v j) (w,z))->wpAnyH P .any ops Q (fun _=> True) fT lT (Ord.putN ops v (fun j=> !Ord.isOn l0 j) a0 m) w):
 wpAnyH P .any ops Q (fun _=> True) fuel l0 a0 W.drew:=
 OrdX.wpAnyH_orderX (w0:=(W.drew, [])) hok1 hN hf hlT hfT hox hxm hxl hlX hns hfr hrd hQ hX (EG.start _) (fun _ _ _ h h'=> h.trans h') (j147 _) (fun _ _ _=> trivial) steps fin
end Go.Proofs.YtdkamgafpphdjaaGreat
namespace Go.Proofs.YtdkamgafpphdjaaGreat
open Go.RowKit
set_option linter.unusedVariables false
attribute [local go_sem ↓] Go.wp_at_zero Go.wp_at_succ
def j49(W w:World)(e:TypeId)(v:Value)(ks:List Tr):Prop:= ∃xs,w.ownsRow W.heap.size e 3 v ks.length xs/\RowL w (fun b=> b < W.heap.size) xs ks
theorem j49.nil(W w:World)(e:TypeId):j49 W w e (.slice none 0 0) []:=⟨[],World.ownsRow_nil _ _ _ _,RowL.nil⟩
theorem j49.ext{W w w':World}{e:TypeId}{v:Value}{ks:List Tr}(h:j49 W w e v ks)(hW:W.heap.size<=w.heap.size)(he:Ext w w'):j49 W w' e v ks:=by
 obtain⟨xs,h1,h2⟩:=h;exact⟨xs,q26 h1 (fun g hg=> he.heap g (h1.lt g hg).2),h2.mono (fun _ h=> h) (fun b hb=> he.heap b (Nat.lt_of_lt_of_le hb hW))⟩
theorem j49.set{W w:World}{e:TypeId}{v:Value}{ks:List Tr}(h:j49 W w e v ks){p:Addr}(hp:v.ownBlock≠some p.block)(hW:W.heap.size<=p.block)(u:Value):j49 W (w.setCell p u) e v ks:=by
 obtain⟨xs,h1,h2⟩:=h;exact⟨xs,q26 h1 (fun g hg=> Below.heap_setCell w p u g (fun e=> hp (by rw[<-e];exact hg))),h2.mono (fun _ h=> h) (fun b hb=> Below.heap_setCell w p u b (by omega))⟩
theorem j49.form{W w:World}{e:TypeId}{v:Value}{ks:List Tr}(h:j49 W w e v ks): ∃B c,v= .slice B ks.length c:=by
 obtain⟨xs,h1,h2⟩:=h;rcases h1.2 with⟨rfl,h0⟩ |⟨g,cap,cur,rfl,_⟩
 · exact⟨none,0,by rw[h0]⟩
 · exact⟨_,cap,rfl⟩
theorem j49.lt{W w:World}{e:TypeId}{v:Value}{ks:List Tr}(h:j49 W w e v ks){g:Nat}(hg:v.ownBlock=some g):W.heap.size<=g/\g < w.heap.size:=by
 obtain⟨xs,h1,h2⟩:=h;exact h1.lt g hg
theorem q87{P:Program}(w:World){ops:Array Oper}{rest:List Oper}{o:Oper}{a:Act}{Q:Exit->Act->World->Prop}(hgd:o.guard=none)(s x:Operand)(t:TypeId)
 (ho:o.op= .call {callee:= .builtin .append,args:=#[s,x],argTypes:=#[t,t]})
 (e:TypeId) (i:TypeInfo) (z:Value) (ht:P.underlying t=some (.slice e)) (hi:P.info? e=some i) (hz:i.zero=some z) (hsize:i.size=3) (hby:i.bytes=40) (hzs:z.cells.size=3)
 {W:World} {v:Value} {ks:List Tr} {tr:Tr} {v0 v1 v2:Value} {gx:Nat} (hs:a.eval s=v) (hG:j49 W w e v ks) (hW:W.heap.size<=w.heap.size)
 (hT:InT w (fun b=> b < W.heap.size) tr (.agg #[v0,v1,v2]))
 (hx:a.eval x= .slice (some ⟨gx,0,none⟩) 1 1) (hgx:w.heap[gx]? =some (.cells #[v0,v1,v2] e (0,0))) (hn:ks.length < 1099511627776)
 (h: ∀v' w',j49 W w' e v' (ks++ [tr])->w.grownBy w' v.ownBlock->(∀g,v'.ownBlock=some g->v.ownBlock=some g\/w.heap.size<=g)->wpList P ops Q rest (a.put o.dst v') w'):wpList P ops Q (o::rest) a w:=by
 refine wpList_plain hgd fun K hK=> ?_
 obtain⟨xs,h1,h2⟩:=hG;obtain⟨v',w',hr,r1,r2,r3⟩:=q16 (P:=P) w W.heap.size t o.type e i z 3 40 ht hi hz hsize hby hzs (by decide) v ks.length xs h1 ⟨gx,0,none⟩ 1 1 [v0,v1,v2] rfl (q50 hgx) (q73 hT) (by unfold maxLen;omega) (by omega) hW;have hw: ∀b,b < W.heap.size->w'.heap[b]? =w.heap[b]? :=fun b hb=> r2.block b (Nat.lt_of_lt_of_le hb hW) (fun he=> by have:=(h1.lt b he.symm).1;omega)
 have hG':j49 W w' e v' (ks++ [tr]):=⟨_,by simpa using r1,RowL.snoc (hT.mono (fun _ h=> h) hw) [] h1.1 (h2.mono (fun _ h=> h) hw)⟩;unfold Oper.wp execOp;simp only[ho,resolve,invoke,builtin,Sem.run_bind,Sem.run_pure,Result.andThen_ok,List.map_toArray,List.map_cons,List.map_nil,hs,hx,hr];exact hK _ _ (h v' w' hG' r2 r3)
theorem j184:(Tryz.prog.info? 25).map (fun i=>(i.zero,i.size,i.bytes))=some (some (.agg #[.int .i64 0, .int .i64 0, .slice none 0 0]),3,40):=by kernel_rfl
theorem q93{k n i:Int}{ks:List Tr}{q:List Int}:atT (.mk k n ks) (i::q)=if 0<=i/\i < ks.length then atT (kd ks i.toNat) q else none:=by rw[atT]
theorem j80{k n i:Int}{ks:List Tr}{q:List Int}:bndT (.mk k n ks) (i::q)=if 0<=i/\i < ks.length then(if 0 < und k i.toNat then [kd ks 0] else [])++bndT (kd ks i.toNat) q else []:=by rw[bndT]
set_option maxRecDepth 100000 in
set_option maxHeartbeats 4000000 in
theorem q86(t:Tr)(d:Int)(hsh:shape sigT t d=true)(hd:d<=1000)(path:List Int)(w:World)(v:Value)(hin:Lies w t v)(A:Option Addr)(cap:Nat)(hl:path.length<=cap)(hc:cap<=maxLen)(hP:Nums w A path):
 Calls Tryz.prog 55 #[v, .slice A path.length cap] w fun e w'=> ∃x ar,e= .returned (.tuple #[x,ar, .bool (atT t path).isSome])/\Lies w' ((atT t path).getD j14) x/\((atT t path).isSome=true->j49 w w' 25 ar (bndT t path))/\((atT t path).isSome=false->ar= .slice none 0 0)/\Ext w w':=by
 obtain⟨k,n,ks⟩:=t;obtain⟨At,ct,rfl,hlt,hct,hKt⟩:=Lies.mk_iff.1 hin;obtain⟨i0,hi,hz0,hz1,hz2⟩:=info_parts j184;have hcc:=hc;unfold maxLen at hcc;have hct':=hct;unfold maxLen at hct';have hx0:=((xr w).alloc (.cells #[.int .i64 k, .int .i64 n, .slice At ks.length ct] 25)).alloc (.cells #[.int .i64 0, .int .i64 0, .slice none 0 0] 25);obtain⟨hb0,hb1,hs0⟩:=blk2 (xr ((w.alloc (.cells #[.int .i64 k, .int .i64 n, .slice At ks.length ct] 25)).alloc (.cells #[.int .i64 0, .int .i64 0, .slice none 0 0] 25)));clear hin;go_enter Tryz.func55,Tryz.ntmps55;go_wp2_with fail;generalize World.alloc (World.alloc w _) _=wS at hx0 hb0 hb1 hs0⊢
 go_loopw [7,12] (fun a i wr=> ∃(j:Nat) (k' n':Int) (kids:List Tr) (A':Option Addr) (c':Nat) (d':Int) (acc:List Tr) (B:Option Addr) (l c:Nat),j<=path.length/\i= .int .i64 j/\a= .slice B l c/\j49 w wr 25 (.slice B l c) acc/\acc.length<=j/\(Value.slice B l c).ownBlock≠some w.heap.size/\(Value.slice B l c).ownBlock≠some (w.heap.size+1)/\
  Hid (atT (.mk k n ks) path=atT (.mk k' n' kids) (path.drop j))/\Hid (bndT (.mk k n ks) path=acc++bndT (.mk k' n' kids) (path.drop j))/\shape sigT (.mk k' n' kids) d'=true/\d'+j<=1000/\kids.length<=c'/\c'<=maxLen/\j21 w A' kids/\
  wr.heap[w.heap.size]? =some (.cells #[.int .i64 k', .int .i64 n', .slice A' kids.length c'] 25 (0,0))/\wr.heap[w.heap.size+1]? =some (.cells #[.int .i64 0, .int .i64 0, .slice none 0 0] 25 (0,0))/\Ext w wr) (fun _ i _=> path.length -(intOf i).toNat)
 case atStart=> exact⟨0,k,n,ks,At,ct,d, [],none,0,0,Nat.zero_le _,rfl,rfl,j49.nil _ _ _,Nat.zero_le _,by simp[Value.ownBlock],by simp[Value.ownBlock],hdq rfl,hdq rfl,hsh,by simpa using hd,hlt,hct,hKt,hb0,hb1,hx0⟩
 case round=>
  obtain⟨j,k',n',kids,A',c',d',acc,B,l,c,hj,rfl,rfl,hG,hal,ho0,ho1,HA,HB,hsh',hd',hkl,hkc,hK,hb,hbR,hx⟩:=hrel;have hsz:w.heap.size+1 < wr.heap.size:=q10 hbR;have hdp:=j39 hsh';by_cases hlj:j < path.length
  · obtain⟨bp,op,rfl,cp⟩:=hP.get hx hlj
    have hdr:path.drop j=path[j]::path.drop (j+1):=List.drop_eq_getElem_cons hlj;have HA1:=hdq (HA.out.trans (by rw[hdr,q93]));have HB1:=hdq (HB.out.trans (by rw[hdr,j80]));clear HA HB hdr;generalize path[j]=i at cp HA1 HB1;have hj2:(j:Int) <(path.length:Int):=by omega
    obtain⟨hops,-,-,hsk⟩:=y25 hsh';obtain⟨z0,z1,z2,f0,f1,f2⟩:=own3 hb;obtain⟨y0,y1,y2,g0,g1,g2⟩:=own3 hbR;have hkc':=hkc;unfold maxLen at hkc';have HWI:=hdq (q22 i 0 ((kids.length:Int) - 1));have hir:inR i 0 ((kids.length:Int) - 1)=decide (0<=i/\i <(kids.length:Int)):=by
     unfold inR;rw[<-Bool.decide_and];exact decide_eq_decide.2 (by omega)
    by_cases hi2:0<=i/\i <(kids.length:Int)
    · rw[decide_eq_true hi2] at hir
      rw[hir] at HWI;rw[if_pos hi2] at HA1 HB1;clear hir;obtain⟨m,rfl⟩:=Int.eq_ofNat_of_zero_le hi2.1;have hm:m < kids.length:=by omega
      have e0:((m:Int)).toNat=m:=by omega
      have HA2:=hdq (show atT (.mk k n ks) path=atT (kd kids m) (path.drop (j+1)) by have:=HA1.out;rwa [e0] at this);have HB2:=hdq (show bndT (.mk k n ks) path=acc++((if 0 < und k' m then [kd kids 0] else [])++bndT (kd kids m) (path.drop (j+1))) by have:=HB1.out;rwa [e0] at this);clear HA1 HB1 e0;obtain⟨b,o,k2,n2,A2,c2,kids2,rfl,HK,e0,e1,e2,hkl2,hkc2,hK2,hin2,hmem⟩:=hK.get (xr w) hm;have hkd:kd kids m= .mk k2 n2 kids2:=j37 hm HK.out;have hsk2:=hsk _ hmem;rw[hkd] at HA2 HB2;have hm2:(m:Int) <(kids.length:Int):=hi2.2;have d0:=hx.cell e0;have d1:=hx.cell e1;have d2:=hx.cell e2;have hwl:w.heap.size < wr.heap.size:=by omega
      obtain⟨uu,hu⟩: ∃u,und k' m=u:=⟨_,rfl⟩;have HU:=hdq (fun W=> j84 k' m W);rw[hu] at HU HB2;have E0:=hdq e0;have E1:=hdq e1;have E2:=hdq e2;clear hkd hu HK hmem hi2 e0 e1 e2;by_cases hu0:0 < uu
      · have hdu:decide (0 < uu)=true:=decide_eq_true hu0
        rw[if_pos hu0] at HB2;have h0k:0 < kids.length:=by omega
        obtain⟨b3,o3,k3,n3,A3,c3,kids3,hbo,HK3,p0,p1,p2,-,-,-,hin3,-⟩:=hK.get (xr w) h0k;simp only[Option.some.injEq,Addr.mk.injEq,and_true] at hbo;obtain⟨rfl,rfl⟩:=hbo;simp only[Nat.zero_mul,Nat.add_zero] at p0 p1 p2;have q0:=hx.cell p0;have q1:=hx.cell p1;have q2:=hx.cell p2;have hkd3:kd kids 0= .mk k3 n3 kids3:=j37 h0k HK3.out;rw[hkd3] at HB2;have h0i:(0:Int) <(kids.length:Int):=by omega
        have hT3:InT wr (fun b=> b < w.heap.size) (.mk k3 n3 kids3) (.agg #[.int .i64 k3, .int .i64 n3, .slice A3 kids3.length c3]):=InT.mono (fun _ h=> h) (fun x hx'=> hx.heap x hx') hin3;have hx7:=(xr wr).alloc (.cells #[.int .i64 k3, .int .i64 n3, .slice A3 kids3.length c3] 25);have hT7:InT (wr.alloc (.cells #[.int .i64 k3, .int .i64 n3, .slice A3 kids3.length c3] 25)) (fun b=> b < w.heap.size) (.mk k3 n3 kids3) (.agg #[.int .i64 k3, .int .i64 n3, .slice A3 kids3.length c3]):=InT.mono (fun _ h=> h) (fun x hx'=> hx7.heap x (by omega)) hT3;have hG7:=hG.ext hx.size hx7;clear p0 p1 p2 HK3 hkd3 hin3 hT3;go_wp2_with (first|(go_at_call 67;refine(HWI.out _).mono ?_;rintro e w1 ⟨rfl,rfl⟩) |(go_at_call 117;refine(HU.out _).mono ?_;rintro e w1 ⟨rfl,rfl⟩) |(at_builtin;refine q87 _ rfl (.tmp 29) (.tmp 34) 23 rfl 25 i0 _ Tryz.underlying23 hi hz0 hz1 hz2 rfl rfl hG7 (by simp;omega) hT7 rfl (heap_alloc_new _ _) (by omega) ?_))
        intro v6 w6 hG6 hg6 ho6;have ho60:v6.ownBlock≠some w.heap.size:=fun h=> by
         rcases ho6 _ h with h|h
         · exact ho0 h
         · first|omega|(simp at h;omega)
        have ho61:v6.ownBlock≠some (w.heap.size+1):=fun h=> by
         rcases ho6 _ h with h|h
         · exact ho1 h
         · first|omega|(simp at h;omega)
        have hbx:=(hg6.block w.heap.size (by simp;omega) (fun h=> ho0 h.symm)).trans (hx7.blk hb);have hbRx:=(hg6.block (w.heap.size+1) (by simp;omega) (fun h=> ho1 h.symm)).trans (hx7.blk hbR);have hx6:Ext w w6:=(hx.trans hx7).grown hg6 (fun g hg=>(hG.lt hg).1);obtain⟨B6,c6,rfl⟩:=hG6.form;obtain⟨l6,hl6⟩: ∃l,(acc++ [Tr.mk k3 n3 kids3]).length=l:=⟨_,rfl⟩;have hal6:(acc++ [Tr.mk k3 n3 kids3]).length<=j+1:=by simp;omega
        rw[hl6] at hG6 ho60 ho61⊢;have hsz6:w.heap.size+1 < w6.heap.size:=q10 hbRx;have HG6:=hdq hG6;clear hG6 hg6 ho6 hG7 hT7 hx7 z0 z1 z2 f0 f1 f2 y0 y1 y2 g0 g1 g2 d0 d1 d2 q0 q1 q2 hG hb hbR cp hl6;obtain⟨z0,z1,z2,f0,f1,f2⟩:=own3 hbx;have d0:=hx6.cell E0.out;have d1:=hx6.cell E1.out;have d2:=hx6.cell E2.out;have hwl6:w.heap.size < w6.heap.size:=by omega
        go_wp2_with fail
        go_roundw
        case rel=> exact⟨j+1,k2,n2,kids2,A2,c2,d' - 1,_,B6,l6,c6,by omega,by go_num,rfl,((HG6.out.set ho60 (by simp) _).set ho60 (by simp) _).set ho60 (by simp) _,hal6,ho60,ho61,HA2,hdq (by rw[HB2.out,List.append_assoc]),hsk2,by omega,hkl2,hkc2,hK2,q11 (q11 (q11 hbx 0 _) 1 _) 2 _,j11 (j11 (j11 hbRx (by simp) _) (by simp) _) (by simp) _,((hx6.setCell (by simp) _).setCell (by simp) _).setCell (by simp) _⟩
        case measure=> simp[intOf];omega
      · have hdu:decide (0 < uu)=false:=decide_eq_false hu0
        rw[if_neg hu0,List.nil_append] at HB2;have HG6:=hdq hG;clear hG;go_wp2_with (first|(go_at_call 67;refine(HWI.out _).mono ?_;rintro e w1 ⟨rfl,rfl⟩) |(go_at_call 117;refine(HU.out _).mono ?_;rintro e w1 ⟨rfl,rfl⟩))
        go_roundw
        case rel=> exact⟨j+1,k2,n2,kids2,A2,c2,d' - 1,acc,B,l,c,by omega,by go_num,rfl,((HG6.out.set ho0 (by simp) _).set ho0 (by simp) _).set ho0 (by simp) _,by omega,ho0,ho1,HA2,HB2,hsk2,by omega,hkl2,hkc2,hK2,q11 (q11 (q11 hb 0 _) 1 _) 2 _,j11 (j11 (j11 hbR (by simp) _) (by simp) _) (by simp) _,((hx.setCell (by simp) _).setCell (by simp) _).setCell (by simp) _⟩
        case measure=> simp[intOf];omega
    · rw[decide_eq_false hi2] at hir
      rw[hir] at HWI;rw[if_neg hi2] at HA1;clear hir HB1;go_wp2_with (go_at_call 67;refine(HWI.out _).mono ?_;rintro e w1 ⟨rfl,rfl⟩)
      refine bodyPost_ret (v:= .tuple #[.agg #[.int .i64 0, .int .i64 0, .slice none 0 0], .slice none 0 0, .bool false]) (by simp[results,Tryz.results55,go_sem,y0,y1,y2]) rfl ⟨_,_,by rw[HA1.out];rfl, ?_, ?_, ?_, ?_⟩
      · rw[HA1.out];exact Lies.leaf _ _ _
      · rw[HA1.out];intro h;cases h
      · intro _;rfl
      · exact((hx.setCell (by simp) _).setCell (by simp) _).setCell (by simp) _
  · have hd0:path.drop j= []:=List.drop_of_length_le (by omega)
    have HA1:=hdq (show atT (.mk k n ks) path=some (.mk k' n' kids) by rw[HA.out,hd0];rfl);have HB1:=hdq (show bndT (.mk k n ks) path=acc by rw[HB.out,hd0];simp[bndT]);obtain⟨z0,z1,z2,f0,f1,f2⟩:=own3 hb;obtain⟨y0,y1,y2,g0,g1,g2⟩:=own3 hbR;have HG6:=hdq hG;have hwl:w.heap.size < wr.heap.size:=by omega
    clear HA HB hG hd0;go_wp2_with fail;refine bodyPost_ret (v:= .tuple #[.agg #[.int .i64 k', .int .i64 n', .slice A' kids.length c'], .slice B l c, .bool true]) (by simp[results,Tryz.results55,go_sem,y0,y1,y2]) rfl ⟨_,_,by rw[HA1.out];rfl, ?_, ?_, ?_, ?_⟩
    · rw[HA1.out]
      exact Lies.mk hkl hkc (hK.ext (((hx.setCell (by simp) _).setCell (by simp) _).setCell (by simp) _))
    · intro _
      rw[HB1.out];exact((HG6.out.set ho1 (by simp) _).set ho1 (by simp) _).set ho1 (by simp) _
    · rw[HA1.out];intro h;cases h
    · exact((hx.setCell (by simp) _).setCell (by simp) _).setCell (by simp) _
end Go.Proofs.YtdkamgafpphdjaaGreat
namespace Go.Proofs.YtdkamgafpphdjaaGreat
open Go.RowKit
set_option linter.unusedVariables false
theorem ofL_tl(l:List UInt8):(ofL l).toList=l:=by rw[ByteArray.toList_eq,q148]
theorem y180{l:List UInt8}{t:Tr}{b:Nat}(h:prs 30 l 0=some (t,b)):prsV l=if l≠ []/\b=l.length/\fmtV t=l then some t else none:=by
 unfold prsV;rw[h]
theorem q196{l:List UInt8}(h:prs 30 l 0=none):prsV l=none:=by
 unfold prsV;rw[h]
set_option maxRecDepth 100000 in
set_option maxHeartbeats 1000000 in
theorem y116(s:ByteArray)(w:World)(hs:s.size<=1000000000):Calls Tryz.prog 160 #[.string s] w fun e w'=> ∃u,e= .returned (.tuple #[u, .bool (prsV s.data.toList).isSome])/\From w.heap.size w' ((prsV s.data.toList).getD (.mk 0 0 [])) u/\Ext w w':=by
 have HP:=hdq (fun W=>(show Calls Tryz.prog 192 #[.string s, .int .i64 0, .int .i64 30] W (j19 W.heap.size W s.size (prs 30 s.data.toList 0)) from y137 30 (by omega) s 0 W hs (by omega)));have hlen:s.data.toList.length=s.size:=by rw[Array.length_toList];rfl
 have htl:=ByteArray.toList_eq s;obtain⟨R,hR⟩: ∃R,R=prsV s.data.toList:=⟨_,rfl⟩;rw[<-hR];obtain⟨F,hF0⟩: ∃F,F=prs 30 s.data.toList 0:=⟨_,rfl⟩;rw[<-hF0] at HP;cases F with
 |none=>
  have hRn:R=none:=by rw[hR];exact q196 hF0.symm
  have HR:=hdq hRn;obtain⟨be,hbe⟩: ∃be,s.toList.isEmpty=be:=⟨_,rfl⟩;have hbe2:(s.toList== [])=be:=by rw[<-hbe];cases s.toList <;> rfl
  have t1:((-1:Int) !=(s.size:Int))=true:=by rw[bne_iff_ne];omega
  clear hR hF0 hlen htl hRn;cases be
  all_goals(
   go_enter Tryz.func160,Tryz.ntmps160;go_wp2_with fail;refine(HP.out _).mono ?_;rintro e w1 ⟨t,u,nx,rfl,hF,e1,-,q2⟩;obtain rfl:=q2 rfl;obtain⟨k0,n0,A0,l0,c0,rfl⟩:=hF.three;have hx1:=(((xr w).alloc (.cells #[.int .i64 0, .int .i64 0, .slice none 0 0] 25)).trans e1).trans ((xr w1).alloc (.cells #[.int .i64 k0, .int .i64 n0, .slice A0 l0 c0] 25));have hb':=((xr w1).alloc (.cells #[.int .i64 k0, .int .i64 n0, .slice A0 l0 c0] 25)).blk e1.newBlk;obtain⟨s0,s1,s2,f0,f1,f2⟩:=own3 hb';clear hb' q2;go_wp2_with fail;exact bodyPost_ret (v:= .tuple #[.agg #[.int .i64 0, .int .i64 0, .slice none 0 0], .bool false]) (by simp[results,Tryz.results160,go_sem,s0,s1,s2]) rfl ⟨_,by rw[HR.out];rfl,by rw[HR.out];exact From.leaf _ _ _ _,((hx1.setCell (by simp) _).setCell (by simp) _).setCell (by simp) _⟩)
 |some y=>
  obtain⟨t,b⟩:=y;have hRs:R=if s.data.toList≠ []/\b=s.data.toList.length/\fmtV t=s.data.toList then some t else none:=by rw[hR];exact y180 hF0.symm
  have hne:s.data.toList≠ []:=by
   intro h;rw[h] at hF0;rw[y148 (by simp)] at hF0;cases hF0
  have hbe:s.toList.isEmpty=false:=by rw[htl];cases hq:s.data.toList with|nil=> exact absurd hq hne|cons=> rfl
  have hbe2:(s.toList== [])=false:=by rw[htl];cases hq:s.data.toList with|nil=> exact absurd hq hne|cons=> rfl
  have hbe3: ¬(s.toList= []):=by rw[htl];exact hne
  rw[hlen] at hRs;by_cases hb:b=s.size
  · obtain⟨fv,hfv⟩: ∃fv,fv=fmtV t:=⟨_,rfl⟩
    rw[<-hfv] at hRs;have HF:=hdq (fun W v (h:Lies W t v)=> j104 t W v h);rw[<-hfv] at HF;have t1:((b:Int) !=(s.size:Int))=false:=by simp[hb]
    obtain⟨bq,hbq⟩: ∃bq,((ofL fv).toList==s.toList)=bq:=⟨_,rfl⟩;have hRb:R=if bq=true then some t else none:=by
     rw[hRs,<-hbq,ofL_tl,htl];by_cases hq:fv=s.data.toList
     · rw[if_pos ⟨hne,hb,hq⟩,if_pos (by rw[hq];simp)]
     · rw[if_neg (fun h=> hq h.2.2),if_neg (by simpa using hq)]
    have HR:=hdq hRb;have HFV:=hdq hbq;clear hR hF0 hRs hne htl hfv hRb hlen hb;go_enter Tryz.func160,Tryz.ntmps160;go_wp2_with fail;refine(HP.out _).mono ?_;rintro e w1 ⟨t',u,nx,rfl,hF,e1,q1,-⟩;obtain⟨h1,h2,h3⟩:=q1 _ rfl;simp only at h1 h2 h3;subst h1 h2;obtain⟨k0,n0,A0,l0,c0,rfl⟩:=hF.three;have hsz:=e1.size_alloc;have hx1:=(((xr w).alloc (.cells #[.int .i64 0, .int .i64 0, .slice none 0 0] 25)).trans e1).trans ((xr w1).alloc (.cells #[.int .i64 k0, .int .i64 n0, .slice A0 l0 c0] 25));have hb':=((xr w1).alloc (.cells #[.int .i64 k0, .int .i64 n0, .slice A0 l0 c0] 25)).blk e1.newBlk;have hbT:=heap_alloc_new w1 (.cells #[.int .i64 k0, .int .i64 n0, .slice A0 l0 c0] 25);have hFT:From (w.heap.size+1) (w1.alloc (.cells #[.int .i64 k0, .int .i64 n0, .slice A0 l0 c0] 25)) t' (.agg #[.int .i64 k0, .int .i64 n0, .slice A0 l0 c0]):=by simpa using hF.ext ((xr w1).alloc (.cells #[.int .i64 k0, .int .i64 n0, .slice A0 l0 c0] 25))
    clear hF hsz q1;go_wp2_with fail;refine(HF.out _ _ hFT.lies).mono ?_;rintro e w2 ⟨rfl,e2⟩;have hx2:=hx1.trans e2;have hF2:=hFT.ext e2;obtain⟨s0,s1,s2,f0,f1,f2⟩:=own3 (e2.blk hb');obtain⟨x0,x1,x2,-,-,-⟩:=own3 (e2.blk hbT);have hq:=HFV.out;clear hb' hbT;cases bq with
    |false=>
     go_wp2_with fail;exact bodyPost_ret (v:= .tuple #[.agg #[.int .i64 0, .int .i64 0, .slice none 0 0], .bool false]) (by simp[results,Tryz.results160,go_sem,s0,s1,s2]) rfl ⟨_,by rw[HR.out];rfl,by rw[HR.out];exact From.leaf _ _ _ _,((hx2.setCell (by simp) _).setCell (by simp) _).setCell (by simp) _⟩
    |true=>
     go_wp2_with fail;exact bodyPost_ret (v:= .tuple #[.agg #[.int .i64 k0, .int .i64 n0, .slice A0 l0 c0], .bool true]) (by simp[results,Tryz.results160,go_sem,s0,s1,s2]) rfl ⟨_,by rw[HR.out];rfl,by rw[HR.out];exact(((hF2.set (by simp) _).set (by simp) _).set (by simp) _).since (by omega),((hx2.setCell (by simp) _).setCell (by simp) _).setCell (by simp) _⟩
  · have hRn:R=none:=by rw[hRs,if_neg (fun h=> hb h.2.1)]
    have HR:=hdq hRn;have t1:((b:Int) !=(s.size:Int))=true:=by rw[bne_iff_ne];omega
    clear hR hF0 hRs hne htl hRn hlen hb;go_enter Tryz.func160,Tryz.ntmps160;go_wp2_with fail;refine(HP.out _).mono ?_;rintro e w1 ⟨t',u,nx,rfl,hF,e1,q1,-⟩;obtain⟨h1,h2,h3⟩:=q1 _ rfl;simp only at h1 h2 h3;subst h1 h2;obtain⟨k0,n0,A0,l0,c0,rfl⟩:=hF.three;have hx1:=(((xr w).alloc (.cells #[.int .i64 0, .int .i64 0, .slice none 0 0] 25)).trans e1).trans ((xr w1).alloc (.cells #[.int .i64 k0, .int .i64 n0, .slice A0 l0 c0] 25));have hb':=((xr w1).alloc (.cells #[.int .i64 k0, .int .i64 n0, .slice A0 l0 c0] 25)).blk e1.newBlk;obtain⟨s0,s1,s2,f0,f1,f2⟩:=own3 hb';clear hb' q1;go_wp2_with fail;exact bodyPost_ret (v:= .tuple #[.agg #[.int .i64 0, .int .i64 0, .slice none 0 0], .bool false]) (by simp[results,Tryz.results160,go_sem,s0,s1,s2]) rfl ⟨_,by rw[HR.out];rfl,by rw[HR.out];exact From.leaf _ _ _ _,((hx1.setCell (by simp) _).setCell (by simp) _).setCell (by simp) _⟩
end Go.Proofs.YtdkamgafpphdjaaGreat
