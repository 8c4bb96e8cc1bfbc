/-
  Lemmas towards the law, 25: CopyTop, Draws2, Put.
-/
import Derived.Test.YtdkamgafpphdjaaGreatTAW
import Derived.Test.YtdkamgafpphdjaaGreatTAX
namespace Go.Proofs.YtdkamgafpphdjaaGreat
open Go.RowKit
set_option linter.unusedVariables false
attribute [local go_sem ↓] Go.wp_at_zero Go.wp_at_succ
theorem OwnL.rowL{w:World}{e:TypeId}{S:Nat->Prop}: ∀{xs:List Value} {ks:List Tr} {L:List Nat},OwnL w e xs ks L->(∀b,b∈L->S b)->RowL w S xs ks
 |_, [],_,_,_=> RowL.nil
 |xs,t::ts,L,h,hS=> by
  obtain⟨v0,v1,v2,rest,L1,L2,rfl,h1,h2,rfl⟩:=OwnL.cons_iff.1 h;exact RowL.cons_iff.2 ⟨v0,v1,v2,rest,rfl,h1.inT.mono (fun b hb=> hS b (by simp[hb])) (fun _ _=> rfl),OwnL.rowL h2 (fun b hb=> hS b (by simp[hb]))⟩
theorem Grow.toS{W w:World}{e:TypeId}{v:Value}{ks:List Tr}(h:Grow W w e v ks):j16 (fun b=> b < W.heap.size) W w e v ks:=by
 obtain⟨xs,L,h1,h2,h3,h4⟩:=h;exact⟨xs,h1,h2.rowL (fun b hb=>⟨(h3.2 b hb).2,fun he=> h4 b he hb,by have:=(h3.2 b hb).1;omega⟩)⟩
set_option maxRecDepth 100000 in
set_option maxHeartbeats 2000000 in
theorem j161(k n:Int)(ks:List Tr)(w:World)(v:Value)(hin:Lies w (.mk k n ks) v)(hcnt:cnt (.mk k n ks)<=1000000):
 Calls Tryz.prog 72 #[v] w fun e w'=> ∃B c,e= .returned (.agg #[.int .i64 k, .int .i64 n, .slice B ks.length c])/\(∃W0:World,w.heap.size<=W0.heap.size/\j16 (fun b=> b < W0.heap.size) W0 w' 25 (.slice B ks.length c) ks/\W0.heap.size<=w'.heap.size)/\Ext w w':=by
 obtain⟨A,cap,rfl,hl,hc,hK⟩:=Lies.mk_iff.1 hin;obtain⟨i0,hi,hz0,hz1,hz2⟩:=info_parts j128;have hcc:=hc;unfold maxLen at hcc;simp only[cnt] at hcnt;have hlc:=y20 ks;go_enter Tryz.func72,Tryz.ntmps72;go_wp2_with fail;obtain⟨w1,hw1⟩: ∃w1,w1=(w.alloc (.cells #[.int .i64 k, .int .i64 n, .slice A ks.length cap] 25)).alloc (.cells #[.int .i64 0, .int .i64 0, .slice none 0 0] 25):=⟨_,rfl⟩;obtain⟨W,hW⟩: ∃W,W=w1.alloc (.cells #[.int .i64 k, .int .i64 n, .slice none 0 0] 25):=⟨_,rfl⟩;have hs1:w1.heap.size=w.heap.size+1+1:=by rw[hw1];simp
 have hsW:W.heap.size=w.heap.size+3:=by rw[hW];simp;omega
 have hE1:Ext w w1:=hw1▸((xr w).alloc _).alloc _;have hEW:Ext w1 W:=hW▸(xr w1).alloc _;have hbR:w1.heap[w.heap.size+1]? =some (.cells #[.int .i64 0, .int .i64 0, .slice none 0 0] 25 (0,0)):=by
  rw[hw1];exact(blk2 (xr _)).2.1
 have hbO:W.heap[w.heap.size+1+1]? =some (.cells #[.int .i64 k, .int .i64 n, .slice none 0 0] 25 (0,0)):=by
  have:=heap_alloc_new w1 (.cells #[.int .i64 k, .int .i64 n, .slice none 0 0] 25);rw[hs1] at this;rw[hW];exact this
 have hbT:w1.heap[w.heap.size]? =some (.cells #[.int .i64 k, .int .i64 n, .slice A ks.length cap] 25 (0,0)):=by
  rw[hw1];exact(blk2 (xr _)).1
 rw[<-hw1,<-hW];clear hW hw1
 go_loopw [4] (fun i wr=> ∃(j:Nat) (v:Value),j<=ks.length/\i= .int .i64 j/\wr.heap[w.heap.size+1+1]? =some (.cells #[.int .i64 k, .int .i64 n,v] 25 (0,0))/\Grow W wr 25 v (ks.take j)/\Ext w1 wr/\W.heap.size<=wr.heap.size) (fun i _=> ks.length -(intOf i).toNat)
 case atStart=> exact⟨0,_,Nat.zero_le _,rfl,hbO,Grow.nil _ _ _,hEW,Nat.le_refl _⟩
 case round=>
  obtain⟨j,v,hj,rfl,hbv,hG,he,hle⟩:=hrel;by_cases hlt:j < ks.length
  · obtain⟨b,o,k',n',A',cap',kids,rfl,HK,c0,c1,c2,hkl,hkc,hK',hin',hmem⟩:=hK.get (hE1.trans he) hlt
    have htk:=List.take_append_getElem hlt;rw[HK.out] at htk;have hcm:=y15 hmem;have hlen:(ks.take j).length < 1099511627776:=by rw[List.length_take];omega
    have hlj:(ks.take j).length=j:=by rw[List.length_take];omega
    have HL:=hdq hlj;have hbT2:=he.blk hbT;obtain⟨-,-,t2,-,-,-⟩:=own3 hbT2;have hj':(j:Int) <(ks.length:Int):=by omega
    go_wp2_with fail;have hle2:=hle;have hG2:=hG;have hbv2:=hbv;have hv:=y10 hbv2 2;have hcells: ∀w',Below W.heap.size wr w'->w'.heap[w.heap.size+1+1]? =some (.cells #[.int .i64 k, .int .i64 n,v] 25 (0,0)):=fun w' hB=>(hB.block (w.heap.size+1+1) (by omega)).trans hbv2
    have HCells:=hdq hcells;have hEd:Ext wr wr.drew:=(xr wr).drew;have hinD:=hin'.ext hEd;have he2:=he;clear hcells hlj hbv hG he hle hcc
    go_region_law (first|(go_simp;go_at_call 72;refine(q40 _ _ _ hinD (by omega)).mono ?_;rintro e w4 ⟨u,rfl,hM,h4⟩;obtain⟨a1,a2,a3,a4,a5,rfl⟩:=hM.three';have hv4:=y10 (HCells.out _ ((hEd.trans h4).below hle2)) 2;have hs4:=World.block_lt_of_cell? _ _ hv4) |(refine y38 _ (by rfl) (.tmp 18) (.tmp 25) _ (by rfl) 25 i0 _ Tryz.underlying23 hi hz0 hz1 hz2 rfl (by rfl) hG2 hle2 (hEd.trans h4) (hM.since (Nat.le_refl _)) ((xr _).alloc _) (by rfl) (heap_alloc_new _ _) hlen ?_;intro v' w5 hG5 hB5;obtain⟨B5,c5,rfl,q1,q2,-⟩:=hG5.made;have hv5:=y10 (HCells.out _ hB5) 2;have hf5:=y12 (HCells.out _ hB5) 2))
    all_goals(
     have hE5:Ext w1 w5:=he2.trans' hB5 (by omega);have hs5:=hB5.size;have hb6:=HCells.out _ hB5;rw[List.length_append,List.length_singleton,htk,show(ks.take j).length+1=min (j+1) ks.length from by rw[List.length_take];omega] at hG5;have hGs:=fun u=> hG5.after ((y28.refl W.heap.size w5).setCell (p:=⟨w.heap.size+1+1,2,none⟩) (by show w.heap.size+1+1 < W.heap.size;omega) u)
     clear hv4 hs4 hv HCells hM h4 c0 c1 c2 t2;go_wp2_with fail
     go_roundw
     case rel=> exact⟨j+1,_,by omega,by go_num,q11 hb6 2 _,hGs _,hE5.setCell (by show _<=w.heap.size+1+1;omega) _,by simp;omega⟩
     case measure=> simp[intOf];omega)
  · obtain⟨B5,c5,rfl,q1,q2,hMK⟩:=hG.made
    have hGS:=hG.toS;have hjl:j=ks.length:=by omega
    have hln:(ks.take j).length=ks.length:=by rw[hjl,List.take_length]
    obtain⟨r0,r1,r2,-,-,-⟩:=own3 hbv;have hbT2:=he.blk hbT;obtain⟨-,-,t2,-,-,-⟩:=own3 hbT2;have hbR':=he.blk hbR;obtain⟨s0,s1,s2,f0,f1,f2⟩:=own3 hbR';rw[hln] at q1 r2;rw[show ks.take j=ks from by rw[hjl,List.take_length]] at hMK;rw[hln] at hGS;clear hln hbv;go_wp2_with fail;refine bodyPost_ret (v:= .agg #[.int .i64 k, .int .i64 n, .slice B5 ks.length c5]) (by simp[results,Tryz.results72,go_sem,s0,s1,s2]) rfl ⟨B5,c5,rfl,⟨W,by omega, ?_,by simp;omega⟩, ?_⟩
    · rw[show ks.take j=ks from by rw[hjl,List.take_length]] at hGS
      exact((hGS.only (Only.one _ (w.heap.size+1) 0 _) (by intro b hb;rw[List.mem_singleton.1 hb];omega) (fun b hb=> hb)).only (Only.one _ (w.heap.size+1) 1 _) (by intro b hb;rw[List.mem_singleton.1 hb];omega) (fun b hb=> hb)).only (Only.one _ (w.heap.size+1) 2 _) (by intro b hb;rw[List.mem_singleton.1 hb];omega) (fun b hb=> hb)
    · exact((((hE1.trans he).setCell (by simp) _).setCell (by simp) _).setCell (by simp) _)
end Go.Proofs.YtdkamgafpphdjaaGreat
namespace Go.Proofs.YtdkamgafpphdjaaGreat
open Go.RowKit
set_option linter.unusedVariables false
attribute [local go_sem ↓] Go.wp_at_zero Go.wp_at_succ
theorem nd_le4: ∀d,d<=4->nd d<=1023
 |0,_=> by decide
 |1,_=> by decide
 |2,_=> by decide
 |3,_=> by decide
 |4,_=> by decide
theorem j159:valid sigT (.mk 7 0 [])=true:=by decide
set_option maxRecDepth 100000 in
theorem j100(w:World)(g m:Nat)(hR:Rd w g m)(hm:m < 900000):Calls Tryz.prog 101 #[.pointer (some ⟨g,0,none⟩)] w fun e w'=> ∃t u,e= .returned u/\valid sigT t=true/\From w.heap.size w' t u/\Rd w' g (m+1024)/\Only [g] w w':=by
 have hgl:=hR.lt;have hx0:=((xr w).alloc (.cells #[.int .i64 0, .int .i64 0, .slice none 0 0] 25)).alloc (.cells #[.int .i64 3, .int .i64 4, .int .i64 2, .int .i64 3, .int .i64 1] 3);obtain⟨b40,b50,-⟩:=blk2 (xr ((w.alloc (.cells #[.int .i64 0, .int .i64 0, .slice none 0 0] 25)).alloc (.cells #[.int .i64 3, .int .i64 4, .int .i64 2, .int .i64 3, .int .i64 1] 3)));have hN:=j35 (w:=w.alloc (.cells #[.int .i64 0, .int .i64 0, .slice none 0 0] 25)) (cs:=#[.int .i64 3, .int .i64 4, .int .i64 2, .int .i64 3, .int .i64 1]) (e:=3) (ns:= [3,4,2,3,1]) rfl;rw[World.size_alloc] at hN;go_enter Tryz.func101,Tryz.ntmps101;go_wp2_with fail;generalize (w.alloc _).alloc _=w0 at hx0 b40 b50 hN;refine(j27 _ g m (hR.ext hx0) (by omega) _ 5 [3,4,2,3,1] (by simp) (by decide) (by simp) hN (by intro b o hb;simp at hb;omega)).mono ?_;rintro e w1 ⟨d,rfl,hmem,hR1,ho1⟩;obtain⟨dn,rfl,hd4⟩: ∃dn:Nat,d=dn/\dn<=4:=by
  simp only[List.mem_cons,List.not_mem_nil,or_false] at hmem;exact⟨d.toNat,by omega,by omega⟩
 have hnd:=nd_le4 dn hd4;have b41:=ho1.keepBlk b40 (by simp;omega);have hO1:=(oE (L:= [g]) hx0).trans ho1;clear hmem hN b50 b40;go_wp2_with fail;refine(q109 dn hd4 _ g _ hR1 (by omega)).mono ?_;rintro e w2 ⟨t,u,rfl,hF,hR2,ho2⟩;obtain⟨k0,n0,A0,l0,c0,rfl⟩:=hF.three;have b42:=ho2.keepBlk b41 (by simp;omega);have hO2:=hO1.trans ho2;have hx3:=(xr w2).alloc (.cells #[.int .i64 k0, .int .i64 n0, .slice A0 l0 c0] 25);have hbT:=heap_alloc_new w2 (.cells #[.int .i64 k0, .int .i64 n0, .slice A0 l0 c0] 25);have hFx:=(hF.ext hx3).since (show w.heap.size+1<=w1.heap.size from q10 b41);have b43:=hx3.blk b42;have hO3:=hO2.trans (oE (L:= [g]) hx3);have hR3:=hR2.ext hx3;clear b41 b42 hO1 hO2 hF hR1;go_wp2_with fail;refine(y26 t _ _ hFx.lies).mono ?_;obtain⟨vt,hvt⟩: ∃vt,vt=valid sigT t:=⟨_,rfl⟩;rw[<-hvt];rintro e w4 ⟨rfl,e4⟩;have hF4:=hFx.ext e4;obtain⟨s0,s1,s2,f0,f1,f2⟩:=own3 (e4.blk b43);obtain⟨x0,x1,x2,-,-,-⟩:=own3 (e4.blk hbT);have hO4:=hO3.trans (oE (L:= [g]) e4);have hR4:=hR3.ext e4;have HV:=hdq hvt;clear hvt hbT hR3 hO3 hR2;cases vt with
 |true=>
  go_wp2_with fail;refine bodyPost_ret (v:= .agg #[.int .i64 k0, .int .i64 n0, .slice A0 l0 c0]) (by simp[results,Tryz.results101,go_sem,s0,s1,s2]) rfl ⟨t,_,rfl,HV.out.symm, ?_, ?_, ?_⟩
  · exact(((hF4.set (by simp) _).set (by simp) _).set (by simp) _).since (by omega)
  · exact(((hR4.mono (by omega)).set (by simpa using hgl) _).set (by simpa using hgl) _).set (by simpa using hgl) _
  · exact((hO4.setNew (by simp) _).setNew (by simp) _).setNew (by simp) _
 |false=>
  have b44:=e4.blk b43;clear s0 s1 s2 f0 f1 f2;go_wp2_with fail;refine(j23 _ 7 0).mono ?_;rintro e w5 ⟨rfl,e5⟩;obtain⟨s0,s1,s2,f0,f1,f2⟩:=own3 (e5.blk b44);have hO5:=hO4.trans (oE (L:= [g]) e5);have hR5:=hR4.ext e5;go_wp2_with fail;refine bodyPost_ret (v:= .agg #[.int .i64 7, .int .i64 0, .slice none 0 0]) (by simp[results,Tryz.results101,go_sem,s0,s1,s2]) rfl ⟨.mk 7 0 [],_,rfl,j159,From.leaf _ _ _ _, ?_, ?_⟩
  · exact(((hR5.mono (by omega)).set (by simpa using hgl) _).set (by simpa using hgl) _).set (by simpa using hgl) _
  · exact((hO5.setNew (by simp) _).setNew (by simp) _).setNew (by simp) _
end Go.Proofs.YtdkamgafpphdjaaGreat
namespace Go.Proofs.YtdkamgafpphdjaaGreat
open Go.RowKit
set_option linter.unusedVariables false
attribute [local go_sem ↓] Go.wp_at_zero Go.wp_at_succ
def putA:Tr->List Int->Tr->Tr
 |_, [],u=> u
 | .mk k n ks,i::r,u=> .mk k n (ks.set i.toNat (putA (kd ks i.toNat) r u))
theorem y83(t u:Tr):putA t [] u=u:=by cases t;rfl
theorem kd_set{ks:List Tr}{i:Nat}(h:i < ks.length)(x:Tr):kd (ks.set i x) i=x:=by
 unfold kd;rw[List.getD_eq_getElem?_getD,List.getElem?_set_self h]
 rfl
theorem set_kd{ks:List Tr}{i:Nat}(h:i < ks.length):ks.set i (kd ks i)=ks:=by
 unfold kd;rw[List.getD_eq_getElem?_getD,List.getElem?_eq_getElem h];exact List.set_getElem_self h
theorem q156: ∀(p:List Int) (t u o:Tr),atT t p=some o->atT (putA t p u) p=some u/\putA (putA t p u) p o=t
 | [],t,u,o,h=> by
  have e:t=o:=by cases t;simpa[atT] using h
  subst e;rw[y83,y83];exact⟨by cases u;rfl,rfl⟩
 |i::r, .mk k n ks,u,o,h=> by
  rw[atT] at h
  split at h
  · rename_i hi
    obtain⟨h1,h2⟩:=q156 r (kd ks i.toNat) u o h;have hl:i.toNat < ks.length:=by omega
    rw[putA,atT,List.length_set,if_pos hi,kd_set hl,putA,kd_set hl,h2,List.set_set,set_kd hl];exact⟨h1,rfl⟩
  · cases h
theorem j148: ∀{ks:List Tr} {i:Nat} (h:i < ks.length) (x:Tr),cnts (ks.set i x)+cnt (kd ks i)=cnts ks+cnt x
 |t::ts,0,h,x=> by simp[kd,cnts];omega
 |t::ts,i+1,h,x=> by
  have:=j148 (ks:=ts) (i:=i) (by simpa using h) x;rw[q176,List.set_cons_succ,cnts,cnts];omega
theorem q150: ∀(p:List Int) (t u o:Tr),atT t p=some o->cnt (putA t p u)+cnt o=cnt t+cnt u
 | [],t,u,o,h=> by
  have e:t=o:=by cases t;simpa[atT] using h
  subst e;rw[y83];omega
 |i::r, .mk k n ks,u,o,h=> by
  rw[atT] at h
  split at h
  · rename_i hi
    have h1:=q150 r (kd ks i.toNat) u o h;have h2:=j148 (ks:=ks) (i:=i.toNat) (by omega) (putA (kd ks i.toNat) r u);rw[putA,cnt,cnt];omega
  · cases h
theorem j74{P:Program}(w:World){ops:Array Oper}{rest:List Oper}{o:Oper}{a:Act}{Q:Exit->Act->World->Prop}(hgd:o.guard=none)(s x:Operand)(t:TypeId)
 (ho:o.op= .call {callee:= .builtin .append,args:=#[s,x],argTypes:=#[t,t]})
 (base:Nat) (e:TypeId) (i:TypeInfo) (z:Value) (ht:P.underlying t=some (.slice e)) (hi:P.info? e=some i) (hz:i.zero=some z) (hsize:i.size=3) (hby:i.bytes=40) (hzs:z.cells.size=3)
 {v:Value} {b0 o0 cap:Nat} {ks:List Tr} (hs:a.eval s=v) (hown:w.ownsRow base e 3 v 0 []) (hbase:base<=w.heap.size) (hx:a.eval x= .slice (some ⟨b0,o0,none⟩) ks.length cap) {S:Nat->Prop} (hS: ∀b,S b->b < w.heap.size/\v.ownBlock≠some b) (hK:InL w S b0 o0 ks) (hn:ks.length<=1048576) (h0:0 < ks.length)
 (h: ∀(c' g:Nat) (cs:Array Value) (w':World),w'.heap[g]? =some (.cells cs e (0,0))->base<=g->ks.length*3<=cs.size->RowL w' S cs.toList ks->ks.length<=c'->c'<=maxLen->w.grownBy w' v.ownBlock->wpList P ops Q rest (a.put o.dst (.slice (some ⟨g,0,none⟩) ks.length c')) w'):wpList P ops Q (o::rest) a w:=by
 refine wpList_plain hgd fun K hK'=> ?_
 obtain⟨xs,n1,n2,n3,n4⟩:=hK.rowL;obtain⟨v',w',hr,r1,r2,r3⟩:=q16 (P:=P) w base t o.type e i z 3 40 ht hi hz hsize hby hzs (by decide) v 0 [] hown ⟨b0,o0,none⟩ ks.length cap xs n1 (fun j u hu=> by rw[Addr.add_lit];exact n2 j u hu) n3 (by unfold maxLen;omega) (by omega) hbase;rw[Nat.zero_add,List.nil_append] at r1;unfold Oper.wp execOp;simp only[ho,resolve,invoke,builtin,Sem.run_bind,Sem.run_pure,Result.andThen_ok,List.map_toArray,List.map_cons,List.map_nil,hs,hx,hr];rcases r1.2 with⟨-,h5⟩ |⟨g,c',cs,rfl,hb,hg,hnc,hcm,hcs,ht'⟩
 · omega
 · refine hK' _ _ (h c' g cs w' hg hb (by rw[hcs];exact Nat.mul_le_mul_right _ hnc) ?_ hnc hcm r2)
   have h6:=RowL.tail (cs.toList.drop (ks.length*3)) (n4.mono (fun _ h=> h) (fun b hb=> r2.block b (hS b hb).1 (fun he=>(hS b hb).2 he.symm)));rw[<-ht',List.take_append_drop] at h6;exact h6
theorem y158:(Tryz.prog.info? 25).map (fun i=>(i.zero,i.size,i.bytes))=some (some (.agg #[.int .i64 0, .int .i64 0, .slice none 0 0]),3,40):=by kernel_rfl
set_option maxRecDepth 100000 in
set_option maxHeartbeats 1000000 in
theorem q105(ks:List Tr)(w:World)(S:Nat->Prop)(hS: ∀b,S b->b < w.heap.size)(b o cap:Nat)(hb:S b)(hK:InL w S b o ks)(hn:ks.length<=1048576)(h0:0 < ks.length):Calls Tryz.prog 163 #[.slice (some ⟨b,o,none⟩) ks.length cap] w fun e w'=>
 ∃(c g:Nat) (cs:Array Value),e= .returned (.slice (some ⟨g,0,none⟩) ks.length c)/\w'.heap[g]? =some (.cells cs 25 (0,0))/\w.heap.size<=g/\ks.length*3<=cs.size/\RowL w' S cs.toList ks/\ks.length<=c/\c<=maxLen/\Ext w w':=by
 obtain⟨i0,hi,hz0,hz1,hz2⟩:=info_parts y158;have hx:=(xr w).alloc (.cells #[] 25);have hK2:InL (w.alloc (.cells #[] 25)) S b o ks:=InL.mono (fun _ h=> h) (fun x hx'=> hx.heap x (hS x hx')) hb hK;have hG:(w.alloc (.cells #[] 25)).ownsRow w.heap.size 25 3 (.slice (some ⟨w.heap.size,0,none⟩) 0 0) 0 []:=World.ownsRow_lit w #[] 0 (Nat.le_refl _) (Nat.zero_le _) rfl;have hnil: ∀W,(binOp .eql 23 (.slice (some ⟨b,o,none⟩) ks.length cap) (.slice none 0 0)).run Tryz.prog W= .ok (.bool false) W:=fun W=> Lib.run_eql_slice_nil W 23 _ (some ⟨b,o,none⟩) ks.length cap 0 0 Tryz.underlying23
 clear hK;go_enter Tryz.func163,Tryz.ntmps163;go_wp2_with (at_builtin;refine j74 _ rfl (.tmp 5) (.tmp 6) 23 rfl w.heap.size 25 i0 _ Tryz.underlying23 hi hz0 hz1 hz2 rfl (S:=S) (v:= .slice (some ⟨w.heap.size,0,none⟩) 0 0) rfl hG (by simp) rfl (fun y hy=>⟨by have h9:y < w.heap.size:=hS y hy;simp;omega,by have h9:y < w.heap.size:=hS y hy;simp[Value.ownBlock];omega⟩) hK2 hn h0 ?_)
 intro c g cs w' r1 r2 r3 r4 r5 r6 r7;have hE:Ext w w':=hx.grown r7 (by intro k hk;simp[Value.ownBlock] at hk;omega);go_wp2_with fail;go_ret;exact⟨c,g,cs,rfl,r1,r2,r3,r4,r5,r6,hE⟩
structure PFs (w:World) (A:Option Addr) (n cap:Nat) (p:List Int):Prop where
 hn:p.length=n
 hl:n<=cap
 hc:cap<=maxLen
 hP:Nums w A p
theorem PFs.ext{w w':World}{A:Option Addr}{n cap:Nat}{p:List Int}(h:PFs w A n cap p)(he:Ext w w'):PFs w' A n cap p:=⟨h.hn,h.hl,h.hc,h.hP.ext he⟩
theorem PFs.tail{w:World}{b o n cap:Nat}{i:Int}{r:List Int}(h:PFs w (some ⟨b,o,none⟩) n cap (i::r)):PFs w (if cap=1 then some ⟨b,o,none⟩ else some ⟨b,o+1,none⟩) (n - 1) (cap - 1) r:=by
 obtain⟨h1,h2,h3,h4⟩:=h;simp only[List.length_cons] at h1;refine⟨by omega,by omega,by omega, ?_⟩;by_cases hc:cap=1
 · exact .inl (List.eq_nil_of_length_eq_zero (by omega))
 · rw[if_neg hc]
   rcases h4 with h4|⟨b',o',he,hb,hcell⟩
   · cases h4
   · simp only[Option.some.injEq,Addr.mk.injEq,and_true] at he
     obtain⟨rfl,rfl⟩:=he;refine .inr ⟨b,o+1,rfl,hb,fun j hj=> ?_⟩;have:=hcell (j+1) (by simpa using hj)
     rwa [show o+(j+1)=o+1+j by omega] at this
def PutC(p:List Int):Prop:= ∀(t u:Tr) (d:Int),shape sigT t d=true->(atT t p).isSome=true-> ∀(w:World) (vt vu:Value) (S:Nat->Prop),(∀b,S b->b < w.heap.size)->InT w S t vt->InT w S u vu-> ∀(A:Option Addr) (n cap:Nat),PFs w A n cap p->n<=1000->cnt t<=1000000->
 Calls Tryz.prog 121 #[vt, .slice A n cap,vu] w fun e w'=> ∃x,e= .returned x/\InT w' (fun b=> S b\/w.heap.size<=b/\b < w'.heap.size) (putA t p u) x/\Ext w w'
set_option maxRecDepth 100000 in
set_option maxHeartbeats 4000000 in
theorem put_any: ∀p:List Int,PutC p:=fun p=> by
 induction p with
 |nil=>
  intro t u d hsh hat w vt vu S hS hT hU A n cap hp hn1 hcn;obtain⟨k,nn,ks⟩:=t;obtain⟨At,ct,rfl,hlt,hct,hKt⟩:=InT.mk_iff.1 hT;obtain⟨ku,nu,us⟩:=u;have hU0:=hU;obtain⟨Au,cu,rfl,hlu,hcu,hKu⟩:=InT.mk_iff.1 hU;have hn0:n=0:=hp.hn.symm;subst hn0;have hx0:=(((xr w).alloc (.cells #[.int .i64 k, .int .i64 nn, .slice At ks.length ct] 25)).alloc (.cells #[.int .i64 ku, .int .i64 nu, .slice Au us.length cu] 25)).alloc (.cells #[.int .i64 0, .int .i64 0, .slice none 0 0] 25);obtain⟨hb0,hb1,hb2,hs2⟩:=blk3 (xr (((w.alloc (.cells #[.int .i64 k, .int .i64 nn, .slice At ks.length ct] 25)).alloc (.cells #[.int .i64 ku, .int .i64 nu, .slice Au us.length cu] 25)).alloc (.cells #[.int .i64 0, .int .i64 0, .slice none 0 0] 25)));go_enter Tryz.func121,Tryz.ntmps121;go_wp2_with fail;rw[y83];refine bodyPost_ret (v:= .agg #[.int .i64 ku, .int .i64 nu, .slice Au us.length cu]) (by simp[results,Tryz.results121,go_sem]) rfl ⟨_,rfl, ?_, ?_⟩
  · exact InT.mono (fun b hb=> .inl hb) (fun b hb=>((((xr w).alloc _).alloc _).alloc _).heap b (hS b hb)) hU0
  · exact(((xr w).alloc _).alloc _).alloc _
 |cons i r ih=>
  intro t u d hsh hat w vt vu S hS hT hU A n cap hp hn1 hcn;obtain⟨k,nn,ks⟩:=t;obtain⟨At,ct,rfl,hlt,hct,hKt⟩:=InT.mk_iff.1 hT;obtain⟨ku,nu,us⟩:=u;have hU0:=hU;obtain⟨Au,cu,rfl,hlu,hcu,hKu⟩:=InT.mk_iff.1 hU;have hn0:n=r.length+1:=by have:=hp.hn;simpa using this.symm
  obtain⟨b1,o1,rfl,cp⟩:=hp.hP.get (xr w) (j:=0) (by simp);simp only[List.getElem_cons_zero,Nat.add_zero] at cp;have hi:0<=i/\i < ks.length:=by
   rw[atT] at hat
   split at hat
   · assumption
   · cases hat
  rw[atT,if_pos hi] at hat;obtain⟨m,rfl⟩:=Int.eq_ofNat_of_zero_le hi.1;have hm:m < ks.length:=by omega
  have hmt:((m:Int)).toNat=m:=by omega
  rw[hmt] at hat;have hput:putA (.mk k nn ks) ((m:Int)::r) (.mk ku nu us)= .mk k nn (ks.set m (putA (kd ks m) r (.mk ku nu us))):=by rw[putA,hmt]
  rw[hput];obtain⟨b,o,k2,n2,A2,c2,kids2,rfl,hSb,hkm,d0,d1,d2,hkl2,hkc2,hK2⟩:=InK.at_ hKt hm;have hkd:kd ks m= .mk k2 n2 kids2:=j37 hm hkm;obtain⟨-,-,-,hsk⟩:=y25 hsh;have hsk2:shape sigT (.mk k2 n2 kids2) (d - 1)=true:=by have:=hsk _ (List.getElem_mem hm);rwa [hkm] at this
  have hT2:InT w S (.mk k2 n2 kids2) (.agg #[.int .i64 k2, .int .i64 n2, .slice A2 kids2.length c2]):=InT.mk_iff.2 ⟨A2,c2,rfl,hkl2,hkc2,hK2⟩;have hcm:cnt (.mk k2 n2 kids2)<=cnts ks:=by have:=y15 (List.getElem_mem hm);rwa [hkm] at this
  simp only[cnt] at hcn;rw[hkd] at hat⊢;have hKL:InL w S b o ks:=by
   rcases hKt with h|⟨b',o',he,-,hh⟩
   · subst h;simp at hm
   · simp only[Option.some.injEq,Addr.mk.injEq,and_true] at he
     obtain⟨rfl,rfl⟩:=he;exact hh
  have hlc:=y20 ks;have hbw:=hS b hSb;have hb1w:b1 < w.heap.size:=World.block_lt_of_cell? _ _ cp;have hx0:=(((xr w).alloc (.cells #[.int .i64 k, .int .i64 nn, .slice (some ⟨b,o,none⟩) ks.length ct] 25)).alloc (.cells #[.int .i64 ku, .int .i64 nu, .slice Au us.length cu] 25)).alloc (.cells #[.int .i64 0, .int .i64 0, .slice none 0 0] 25);obtain⟨hb0,hbu,hbr,hs2⟩:=blk3 (xr (((w.alloc (.cells #[.int .i64 k, .int .i64 nn, .slice (some ⟨b,o,none⟩) ks.length ct] 25)).alloc (.cells #[.int .i64 ku, .int .i64 nu, .slice Au us.length cu] 25)).alloc (.cells #[.int .i64 0, .int .i64 0, .slice none 0 0] 25)));have hpt:=hp.tail;have hcpb:n<=cap:=hp.hl;have hcpm:cap<=maxLen:=hp.hc;unfold maxLen at hcpm;obtain⟨AD,hAD⟩: ∃AD,(if cap=1 then some (⟨b1,o1,none⟩:Addr) else some ⟨b1,o1+1,none⟩)=AD:=⟨_,rfl⟩;rw[hAD] at hpt;have HAD:=hdq hAD;have hnz:((n:Int)==0)=false:=beq_eq_false_iff_ne.2 (by omega);have hnz2:(n==0)=false:=beq_eq_false_iff_ne.2 (by omega);have hn2:(0:Int) <(n:Int):=by omega
  have hn3:(1:Int)<=(n:Int):=by omega
  have hn6:0 < n:=by omega
  have hn7:1<=n:=by omega
  have hn8:1<=cap:=by omega
  have hn4:(1:Int)<=(cap:Int):=by omega
  have hn5:(n:Int)<=(cap:Int):=by omega
  have hm2:(m:Int) <(ks.length:Int):=by omega
  have hm3:(0:Int)<=(m:Int):=by omega
  clear hAD hput hsk hkm hmt hi hn0 hT hU hkd;go_enter Tryz.func121,Tryz.ntmps121;go_wp2_with fail;generalize World.alloc (World.alloc (World.alloc w _) _) _=wS at hx0 hb0 hbu hbr hs2⊢;obtain⟨z0,z1,z2,-,-,-⟩:=own3 hb0;have HS3:=hdq (show∀w',Ext wS w'->w'.cell? ⟨w.heap.size,0,none⟩=some (.int .i64 k)/\w'.cell? ⟨w.heap.size,1,none⟩=some (.int .i64 nn)/\w'.cell? ⟨w.heap.size,2,none⟩=some (.slice (some ⟨b,o,none⟩) ks.length ct) from fun w' hw=>⟨hw.cell z0,hw.cell z1,hw.cell z2⟩);have X0:Ext wS wS.drew:=(xr wS).drew;have hSS: ∀y,S y->y < wS.heap.size:=fun y hy=> by have:=hS y hy;have:=hx0.size;omega
  have hKS:InL wS S b o ks:=InL.mono (fun _ h=> h) (fun y hy=> hx0.heap y (hS y hy)) hSb hKL;have hgoal: ∀V,Ext wS V->InL V S b o ks:=fun V hV=> InL.mono (fun _ h=> h) (fun y hy=> hV.heap y (hSS y hy)) hSb hKS
  have HKV:=hdq hgoal;clear hgoal z0 z1 z2
  go_region_held3 (fun w'=> w'.cell? ⟨w.heap.size,0,none⟩=some (.int .i64 k)/\w'.cell? ⟨w.heap.size,1,none⟩=some (.int .i64 nn)/\w'.cell? ⟨w.heap.size,2,none⟩=some (.slice (some ⟨b,o,none⟩) ks.length ct))
   (first|exact HS3.out _ (((hxd.setCell (p:=⟨wS.heap.size,0,none⟩) (Nat.le_refl _) _).setCell (p:=⟨wS.heap.size,1,none⟩) (Nat.le_refl _) _).setCell (p:=⟨wS.heap.size,2,none⟩) (Nat.le_refl _) _) |exact HS3.out _ (hxd.alloc _) |exact HS3.out _ hxd|exact HS3.out _ X0|exact HS3.out _ (X0.alloc _) |exact HS3.out _ ((xr wS).alloc _).drew)
   (first|(go_at_call 163;refine(q105 ks _ S (fun y hy=> Nat.lt_of_lt_of_le (hSS y hy) (Ext.size (by first|exact X0|exact X0.alloc _|exact((xr wS).alloc _).drew))) b o ct hSb (HKV.out _ (by first|exact X0|exact X0.alloc _|exact((xr wS).alloc _).drew)) (by omega) (by omega)).mono ?_;rintro e wd ⟨c,g,cs,rfl,hrow,hgl,hcs,hRl,hc1,hc2',ed⟩;have hxd:Ext wS wd:=(by first|exact X0.trans ed|exact(X0.alloc _).trans ed|exact(((xr wS).alloc _).drew).trans ed);(first|(have qb:wd.heap[wS.heap.size]? =some (.cells #[.int .i64 0, .int .i64 0, .slice none 0 0] 25 (0,0)):=ed.blk (heap_alloc_new wS.drew (.cells #[.int .i64 0, .int .i64 0, .slice none 0 0] 25));have hgb:wS.heap.size < g:=(by simp at hgl;omega);obtain⟨sa,sb,sc,fa,fb,fc⟩:=own3 qb) |(have qb:wd.heap[wS.heap.size]? =some (.cells #[.int .i64 0, .int .i64 0, .slice none 0 0] 25 (0,0)):=ed.blk (heap_alloc_new wS (.cells #[.int .i64 0, .int .i64 0, .slice none 0 0] 25));have hgb:wS.heap.size < g:=(by simp at hgl;omega);obtain⟨sa,sb,sc,fa,fb,fc⟩:=own3 qb) |(have qb:=trivial;have hgb:=trivial))))
  all_goals have hws:w.heap.size+3<=wS.heap.size:=by omega
  all_goals have hgS:wS.heap.size<=g:=by have h9:=hgl;simp at h9;omega
  all_goals(first
   |(have en:Ext wS (wd.alloc (.cells #[.int .i64 k, .int .i64 nn, .slice (some ⟨g,0,none⟩) ks.length c] 25)):=hxd.alloc _;have bn:=heap_alloc_new wd (.cells #[.int .i64 k, .int .i64 nn, .slice (some ⟨g,0,none⟩) ks.length c] 25);have rn:=((xr wd).alloc (.cells #[.int .i64 k, .int .i64 nn, .slice (some ⟨g,0,none⟩) ks.length c] 25)).blk hrow;have Rn:RowL (wd.alloc (.cells #[.int .i64 k, .int .i64 nn, .slice (some ⟨g,0,none⟩) ks.length c] 25)) S cs.toList ks:=hRl.mono (fun _ h=> h) (fun y hy=> Below.heap_alloc wd _ y (by have:=hSS y hy;have:=hxd.size;omega));have gne:wd.heap.size≠g:=(by have:=q10 hrow;omega);have gw:wS.heap.size<=wd.heap.size:=hxd.size;obtain⟨w7,hw7⟩: ∃x,x=wd.alloc (.cells #[.int .i64 k, .int .i64 nn, .slice (some ⟨g,0,none⟩) ks.length c] 25):=⟨_,rfl⟩;rw[<-hw7];rw[<-hw7] at en bn rn Rn;clear hw7;obtain⟨g7,hg7⟩: ∃x,x=wd.heap.size:=⟨_,rfl⟩;rw[<-hg7] at bn gne gw⊢;clear hg7)
   |(have en:Ext wS (((wd.setCell ⟨wS.heap.size,0,none⟩ (.int .i64 k)).setCell ⟨wS.heap.size,1,none⟩ (.int .i64 nn)).setCell ⟨wS.heap.size,2,none⟩ (.slice (some ⟨g,0,none⟩) ks.length c)):=((hxd.setCell (p:=⟨wS.heap.size,0,none⟩) (Nat.le_refl _) _).setCell (p:=⟨wS.heap.size,1,none⟩) (Nat.le_refl _) _).setCell (p:=⟨wS.heap.size,2,none⟩) (Nat.le_refl _) _;have bn:=q11 (q11 (q11 qb 0 (.int .i64 k)) 1 (.int .i64 nn)) 2 (.slice (some ⟨g,0,none⟩) ks.length c);have rn:=j11 (j11 (j11 hrow (p:=⟨wS.heap.size,0,none⟩) (by show g≠wS.heap.size;omega) (.int .i64 k)) (p:=⟨wS.heap.size,1,none⟩) (by show g≠wS.heap.size;omega) (.int .i64 nn)) (p:=⟨wS.heap.size,2,none⟩) (by show g≠wS.heap.size;omega) (.slice (some ⟨g,0,none⟩) ks.length c);have Rn:RowL (((wd.setCell ⟨wS.heap.size,0,none⟩ (.int .i64 k)).setCell ⟨wS.heap.size,1,none⟩ (.int .i64 nn)).setCell ⟨wS.heap.size,2,none⟩ (.slice (some ⟨g,0,none⟩) ks.length c)) S cs.toList ks:=hRl.mono (fun _ h=> h) (fun y hy=> by have h8:=hSS y hy;rw[Below.heap_setCell _ _ _ _ (by show y≠wS.heap.size;omega),Below.heap_setCell _ _ _ _ (by show y≠wS.heap.size;omega),Below.heap_setCell _ _ _ _ (by show y≠wS.heap.size;omega)]);have gne:wS.heap.size≠g:=(by omega);obtain⟨w7,hw7⟩: ∃x,x=(((wd.setCell ⟨wS.heap.size,0,none⟩ (.int .i64 k)).setCell ⟨wS.heap.size,1,none⟩ (.int .i64 nn)).setCell ⟨wS.heap.size,2,none⟩ (.slice (some ⟨g,0,none⟩) ks.length c)):=⟨_,rfl⟩;rw[<-hw7];rw[<-hw7] at en bn rn Rn;clear hw7;obtain⟨g7,hg7⟩: ∃x,x=wS.heap.size:=⟨_,rfl⟩;have gw:wS.heap.size<=g7:=(by rw[hg7];exact Nat.le_refl _);rw[<-hg7] at bn gne⊢;clear hg7))
  all_goals(
   try clear sa sb sc fa fb fc
   clear qb hgb hxd ed hrow hRl hgl X0 HS3;have hE7:Ext w w7:=hx0.trans en;obtain⟨y0,y1,y2,-,-,-⟩:=own3 bn;obtain⟨-,-,t2,-,-,-⟩:=own3 (en.blk hb0);obtain⟨v0,v1,v2,-,-,-⟩:=own3 (en.blk hbu);have p0:=hE7.cell cp;have q0:=hE7.cell d0;have q1:=hE7.cell d1;have q2:=hE7.cell d2;have hg7:g7 < w7.heap.size:=q10 bn;have hgr:g < w7.heap.size:=q10 rn;have HS4:=hdq (show∀w':World,(∀y,y < w7.heap.size->y≠g->w'.heap[y]? =w7.heap[y]?)->w'.cell? ⟨g7,2,none⟩=some (.slice (some ⟨g,0,none⟩) ks.length c)/\w'.cell? ⟨w.heap.size,2,none⟩=some (.slice (some ⟨b,o,none⟩) ks.length ct)/\w'.cell? ⟨b1,o1,none⟩=some (.int .i64 m)/\w'.cell? ⟨b,o+m*3,none⟩=some (.int .i64 k2)/\w'.cell? ⟨b,o+m*3+1,none⟩=some (.int .i64 n2)/\w'.cell? ⟨b,o+m*3+2,none⟩=some (.slice A2 kids2.length c2)/\w'.cell? ⟨w.heap.size+1,0,none⟩=some (.int .i64 ku)/\w'.cell? ⟨w.heap.size+1,1,none⟩=some (.int .i64 nu)/\w'.cell? ⟨w.heap.size+1,2,none⟩=some (.slice Au us.length cu) from fun w' hw=> by
    have f: ∀(y j:Nat) (x:Value),y < w7.heap.size->y≠g->w7.cell? ⟨y,j,none⟩=some x->w'.cell? ⟨y,j,none⟩=some x:=fun y j x h1 h2 h3=>(World.cell?_of_block (a:=⟨y,j,none⟩) (hw y h1 h2)).trans h3
    exact⟨f _ _ _ hg7 gne y2,f _ _ _ (by omega) (by omega) t2,f _ _ _ (by omega) (by omega) p0,f _ _ _ (by omega) (by omega) q0,f _ _ _ (by omega) (by omega) q1,f _ _ _ (by omega) (by omega) q2,f _ _ _ (by omega) (by omega) v0,f _ _ _ (by omega) (by omega) v1,f _ _ _ (by omega) (by omega) v2⟩)
   have X7:Ext w7 w7.drew:=(xr w7).drew;have hS7: ∀y,S y->y < w7.heap.size:=fun y hy=> by have:=hS y hy;omega
   go_wp2_with fail;clear y0 y1 y2 t2 v0 v1 v2 p0 q0 q1 q2
   go_region_held3 (fun w'=> w'.cell? ⟨g7,2,none⟩=some (.slice (some ⟨g,0,none⟩) ks.length c)/\w'.cell? ⟨w.heap.size,2,none⟩=some (.slice (some ⟨b,o,none⟩) ks.length ct)/\w'.cell? ⟨b1,o1,none⟩=some (.int .i64 m)/\w'.cell? ⟨b,o+m*3,none⟩=some (.int .i64 k2)/\w'.cell? ⟨b,o+m*3+1,none⟩=some (.int .i64 n2)/\w'.cell? ⟨b,o+m*3+2,none⟩=some (.slice A2 kids2.length c2)/\w'.cell? ⟨w.heap.size+1,0,none⟩=some (.int .i64 ku)/\w'.cell? ⟨w.heap.size+1,1,none⟩=some (.int .i64 nu)/\w'.cell? ⟨w.heap.size+1,2,none⟩=some (.slice Au us.length cu))
    (first|exact HS4.out _ (fun y h1 h2=> by rw[Below.heap_setCell _ _ _ _ h2,Below.heap_setCell _ _ _ _ h2,Below.heap_setCell _ _ _ _ h2];exact hx8.heap y h1) |exact HS4.out _ (fun y h1 _=> hx8.heap y h1) |exact HS4.out _ (fun y h1 _=> X7.heap y h1))
    (first|(go_at_call 121;(try rw[HAD.out]);refine(ih _ _ (d - 1) hsk2 hat w7.drew _ _ S (fun y hy=> hS7 y hy) (InT.mono (fun _ h=> h) (fun y hy=>(hE7.trans X7).heap y (hS y hy)) hT2) (InT.mono (fun _ h=> h) (fun y hy=>(hE7.trans X7).heap y (hS y hy)) hU0) _ _ _ (hpt.ext (hE7.trans X7)) (by omega) (by omega)).mono ?_;rintro e w8 ⟨x,rfl,hX8,e8⟩;have hx8:Ext w7 w8:=X7.trans e8;have hX9:=hX8;obtain⟨x1,x2,x3,x4,x5,rfl⟩:=InT.three hX9;clear hX9;obtain⟨u0,u1,u2,r0,r1,r2,f0,f1,f2⟩:=cells3 (i:=m*3) (hx8.blk rn) (by omega)))
   clear u0 u1 u2 r0 r1 r2 f0 f1 f2 HS4 X7 e8 HAD;have rn9:=q11 (q11 (q11 (hx8.blk rn) (m*3) (.int .i64 x1)) (m*3+1) (.int .i64 x2)) (m*3+2) (.slice x3 x4 x5);have keep: ∀y,y≠g->(((w8.setCell ⟨g,m*3,none⟩ (.int .i64 x1)).setCell ⟨g,m*3+1,none⟩ (.int .i64 x2)).setCell ⟨g,m*3+2,none⟩ (.slice x3 x4 x5)).heap[y]? =w8.heap[y]? :=fun y hy=> by rw[Below.heap_setCell _ _ _ _ hy,Below.heap_setCell _ _ _ _ hy,Below.heap_setCell _ _ _ _ hy]
   have hsz9:(((w8.setCell ⟨g,m*3,none⟩ (.int .i64 x1)).setCell ⟨g,m*3+1,none⟩ (.int .i64 x2)).setCell ⟨g,m*3+2,none⟩ (.slice x3 x4 x5)).heap.size=w8.heap.size:=by simp
   have hE9:Ext w (((w8.setCell ⟨g,m*3,none⟩ (.int .i64 x1)).setCell ⟨g,m*3+1,none⟩ (.int .i64 x2)).setCell ⟨g,m*3+2,none⟩ (.slice x3 x4 x5)):=(((hE7.trans hx8).setCell (p:=⟨g,m*3,none⟩) (by show w.heap.size<=g;omega) _).setCell (p:=⟨g,m*3+1,none⟩) (by show w.heap.size<=g;omega) _).setCell (p:=⟨g,m*3+2,none⟩) (by show w.heap.size<=g;omega) _;obtain⟨w9,hw9⟩: ∃x,x=(((w8.setCell ⟨g,m*3,none⟩ (.int .i64 x1)).setCell ⟨g,m*3+1,none⟩ (.int .i64 x2)).setCell ⟨g,m*3+2,none⟩ (.slice x3 x4 x5)):=⟨_,rfl⟩;rw[<-hw9] at rn9 keep hsz9 hE9⊢;clear hw9;have hs78:=hx8.size;have bn9:=(keep g7 gne).trans (hx8.blk bn);have br9:=(keep (w.heap.size+1+1) (by omega)).trans (hx8.blk (en.blk hbr));have Rn9:RowL w9 (fun y=> S y\/w.heap.size+3<=y/\y < w9.heap.size) cs.toList ks:=Rn.mono (fun y hy=> .inl hy) (fun y hy=>(keep y (by have:=hS y hy;omega)).trans (hx8.heap y (hS7 y hy)));have hX9:InT w9 (fun y=> S y\/w.heap.size+3<=y/\y < w9.heap.size) (putA (.mk k2 n2 kids2) r (.mk ku nu us)) (.agg #[.int .i64 x1, .int .i64 x2, .slice x3 x4 x5]):=InT.mono (fun y hy=> by
    rcases hy with hy|hy
    · exact .inl hy
    · have h9:w7.heap.size<=y:=hy.1
      have h8:=hy.2;exact .inr ⟨by omega,by omega⟩) (fun y hy=> keep y (by
    rcases hy with hy|hy
    · have:=hS y hy;omega
    · have h9:w7.heap.size<=y:=hy.1
      omega)) hX8
   have hR9:=RowL.set hX9 m Rn9;have hK9:=RowL.inL rn9 (pre:= []) hR9 (by simp[Array.toList_setIfInBounds]);have HK9:=hdq hK9;have HKP:=hdq hE9;obtain⟨y0,y1,y2,-,-,-⟩:=own3 bn9;obtain⟨s0,s1,s2,f0,f1,f2⟩:=own3 br9;have hwg:w.heap.size+1+1 < w9.heap.size:=q10 br9;have hgg:g < w9.heap.size:=q10 rn9;clear keep hE9 hK9 hR9 hX9 Rn9 Rn rn rn9 bn bn9 br9 hX8 hb0 hbu hbr HKV;go_wp2_with fail;refine bodyPost_ret (v:= .agg #[.int .i64 k, .int .i64 nn, .slice (some ⟨g,0,none⟩) ks.length c]) (by simp[results,Tryz.results121,go_sem,s0,s1,s2]) rfl ⟨_,rfl, ?_, ?_⟩
   · refine InT.mk_iff.2 ⟨some ⟨g,0,none⟩,c,by rw[List.length_set],by rw[List.length_set];exact hc1,hc2', .inr ⟨g,0,rfl, .inr ⟨by omega,by simpa using hgg⟩, ?_⟩⟩
     refine InL.mono (S:=fun y=> S y\/w.heap.size+3<=y/\y < w9.heap.size) (fun y hy=> ?_) (fun y hy=> ?_) (.inr ⟨by omega,hgg⟩) HK9.out
     · rcases hy with hy|hy
       · exact .inl hy
       · exact .inr ⟨by omega,by simpa using hy.2⟩
     · have hne:y≠w.heap.size+1+1:=by
        rcases hy with hy|hy
        · have:=hS y hy;omega
        · omega
       rw[Below.heap_setCell _ _ _ _ hne,Below.heap_setCell _ _ _ _ hne,Below.heap_setCell _ _ _ _ hne]
   · exact((HKP.out.setCell (by show w.heap.size<=w.heap.size+1+1;omega) _).setCell (by show w.heap.size<=w.heap.size+1+1;omega) _).setCell (by show w.heap.size<=w.heap.size+1+1;omega) _)
end Go.Proofs.YtdkamgafpphdjaaGreat
