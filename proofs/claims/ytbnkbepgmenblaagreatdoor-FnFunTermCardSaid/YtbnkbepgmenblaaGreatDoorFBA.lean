/-
  Lemmas towards the law, 27: ReadT.
-/
import Derived.Test.YtbnkbepgmenblaaGreatDoorFAX
import Derived.Test.YtbnkbepgmenblaaGreatDoorFAY
set_option linter.unusedVariables false
set_option maxHeartbeats 8000000
set_option maxRecDepth 100000
namespace Go.Proofs.YtbnkbepgmenblaaGreatDoor
open Go.RowKit
attribute [local go_sem ↓] Go.wp_at_zero Go.wp_at_succ
theorem j102(l:List UInt8)(w:World):Calls Tryz.prog 50 #[.string (ofL l)] w fun e w'=> e= .returned (.int .i64 (khd l))/\Ext w w':=by
 cases l with
 |nil=> exact j158 w
 |cons b r=> exact j132 (ofL (b::r)) b r (y22 _) w
theorem j168(l:List UInt8):khd l= -1\/(1<=khd l/\khd l<=16/\l≠ []):=by
 cases l with
 |nil=> exact .inl rfl
 |cons b r=>
  by_cases h:khd (b::r)= -1
  · exact .inl h
  · refine .inr ?_
    simp only[khd] at h⊢;refine⟨?_, ?_,by simp⟩ <;>(repeat' split) <;> first|omega|(rename_i hh;simp_all)
theorem j28(l p:List UInt8)(w:World):Calls Tryz.prog 54 #[.string (ofL l),.string (ofL p)] w fun e w'=> e= .returned (.tuple #[.string (ofL (Lib.trimPrefix l p)),.bool (Lib.hasPrefix l p)])/\w'=w:=by
 have h:=Tryz.strings_CutPrefix (ofL l) (ofL p) w;rw[y22,y22] at h;exact h
theorem q38(l p:List UInt8):(Lib.trimPrefix l p).length<=l.length:=by
 unfold Lib.trimPrefix
 split <;> simp
theorem y170:(Tryz.prog.info? 26).map (fun i=>(i.zero,i.size,i.bytes))=some (some (.agg #[.int .i64 0,.int .i64 0,.slice none 0 0]),3,40):=by kernel_rfl
theorem rdN_len(l:List UInt8):(rdN l).2.length<=l.length:=by
 unfold rdN
 split <;> simp
theorem q133(f:List UInt8->Tr×List UInt8×Bool)(hf: ∀l,(f l).2.1.length<=l.length)(par:Bool): ∀(b:Bool) (ps:List (List UInt8)) (k:Int) (ks:List Tr) (y:List UInt8) (ok:Bool),(rdL f par b ps k ks y ok).2.1.length<=y.length
 |b, [],k,ks,y,ok=> by unfold rdL;exact Nat.le_refl _
 |b,p::ps,k,ks,y,ok=> by
  unfold rdL
  split
  · split
    · split
      · exact Nat.le_trans (q133 f hf par _ _ _ _ _ _) (Nat.le_trans (q38 _ _) (hf y))
      · exact Nat.le_trans (q133 f hf par _ _ _ _ _ _) (Nat.le_trans (q38 _ _) (hf y))
    · simp
  · exact Nat.le_refl _
theorem y161: ∀(d:Nat) (l:List UInt8),(rdT d l).2.1.length<=l.length
 |0,l=> by unfold rdT;simp
 |d+1,l=> by
  unfold rdT
  split
  · simp
  · split
    · have:=rdN_len (l.drop 1)
      rw[List.length_drop] at this
      show(rdN (l.drop 1)).2.length<=_
      omega
    · exact Nat.le_trans (q133 _ (y161 d) _ _ _ _ _ _ _) (q38 _ _)
def RdC(d:Nat):Prop:= ∀(D:Int) (l:List UInt8) (w:World),D+d=31->EnvR w->l.length<=1000000000->Calls Tryz.prog 27 #[.string (ofL l),.int .i64 D] w fun e w'=>
 ∃u,e= .returned (.tuple #[u,.string (ofL (rdT d l).2.1),.bool (rdT d l).2.2])/\Made w w' 26 (rdT d l).1 u/\Ext w w'
theorem rdT_neg{d:Nat}{l:List UInt8}(h:khd l < 0):rdT (d+1) l=(y14, [],false):=by
 unfold rdT;rw[if_pos h]
theorem rdT_num{d:Nat}{l:List UInt8}(h:khd l=1\/khd l=2):rdT (d+1) l=(.mk (khd l) (rdN (l.drop 1)).1 [],(rdN (l.drop 1)).2,decide (0<=(rdN (l.drop 1)).1)):=by
 conv=> lhs;unfold rdT
 rw[if_neg (by omega),if_pos h]
theorem j211{d:Nat}{l:List UInt8}(h0: ¬khd l < 0)(h: ¬(khd l=1\/khd l=2)):rdT (d+1) l=rdL (rdT d) (decide (l.head?=some 40)) true (prt (khd l)).tail (khd l) [] (Lib.trimPrefix l ((prt (khd l)).headD [])) (Lib.hasPrefix l ((prt (khd l)).headD [])):=by
 conv=> lhs;unfold rdT
 rw[if_neg h0,if_neg h]
theorem q178{f:List UInt8->Tr×List UInt8×Bool}{par b:Bool}{k:Int}{ks:List Tr}{y:List UInt8}{ok:Bool}:rdL f par b [] k ks y ok=(.mk k 0 ks,y,ok):=by
 unfold rdL;rfl
theorem q198{f:List UInt8->Tr×List UInt8×Bool}{par b:Bool}{ps:List (List UInt8)}{k:Int}{ks:List Tr}{y:List UInt8}:rdL f par b ps k ks y false=(.mk k 0 ks,y,false):=by
 cases ps with
 |nil=> exact q178
 |cons p ps=> rw[rdL,if_neg (by simp)]
theorem y200{f:List UInt8->Tr×List UInt8×Bool}{par b:Bool}{p:List UInt8}{ps:List (List UInt8)}{k:Int}{ks:List Tr}{y z:List UInt8}{t:Tr}(h:f y=(t,z,false)):rdL f par b (p::ps) k ks y true=(y14, [],false):=by
 rw[rdL,if_pos rfl,h,if_neg (by simp)]
theorem rdL_go{f:List UInt8->Tr×List UInt8×Bool}{par b:Bool}{p:List UInt8}{ps:List (List UInt8)}{k:Int}{ks:List Tr}{y z:List UInt8}{t:Tr}(h:f y=(t,z,true))(hn: ¬(par=true/\b=true/\z≠ [])):rdL f par b (p::ps) k ks y true=rdL f par false ps k (ks++ [t]) (Lib.trimPrefix z p) (Lib.hasPrefix z p):=by
 rw[rdL,if_pos rfl,h,if_pos rfl,if_neg hn]
theorem rdL_par{f:List UInt8->Tr×List UInt8×Bool}{p:List UInt8}{ps:List (List UInt8)}{k:Int}{ks:List Tr}{y z:List UInt8}{t:Tr}(h:f y=(t,z,true))(hn:z≠ []):rdL f true true (p::ps) k ks y true=rdL f true false ps (j68 z) (ks++ [t]) (Lib.trimPrefix z ((prt (j68 z)).getD 1 [])) (Lib.hasPrefix z ((prt (j68 z)).getD 1 [])):=by
 rw[rdL,if_pos rfl,h,if_pos rfl,if_pos ⟨rfl,rfl,hn⟩]
theorem khd_par{l:List UInt8}(h:l.head?=some 40):khd l=3:=by
 cases l with
 |nil=> cases h
 |cons b r=> simp only[List.head?_cons,Option.some.injEq] at h;subst h;rfl
theorem q71(l:List UInt8)(c:UInt8)(xs:List (List UInt8))(Ib:cutL c l=xs)(w:World)(hw:EnvM w)(hl:l.length<=1000000000):Calls Tryz.prog 52 #[.string (ofL l),.string (ofL [c])] w fun e w'=> ∃b,e= .returned (.slice (some ⟨b,0,none⟩) xs.length xs.length)/\w'.heap[b]? =some (.cells (strs xs).toArray 9 (0,0))/\Ext w w':=by
 subst Ib;refine(j125 l c w hw hl).mono ?_;rintro e w' ⟨rfl,rfl⟩;exact⟨_,rfl,heap_alloc_new w _,(xr w).alloc _⟩
theorem q53{w:World}{b:Nat}{xs:List (List UInt8)}{e:TypeId}(h:w.heap[b]? =some (.cells (strs xs).toArray e (0,0))){j:Nat}(hj:j < xs.length):w.cell? ⟨b,j,none⟩=some (.string (ofL xs[j])):=by
 rw[q10 h];exact y114 hj
theorem q156(w:World)(a b:Obj):((w.alloc a).alloc b).heap[w.heap.size+1]? =some b:=by
 have:=heap_alloc_new (w.alloc a) b
 rwa [World.size_alloc] at this
theorem y66{P:Program}(w:World){ops:Array Oper}{rest:List Oper}{o:Oper}{a:Act}{Q:Exit->Act->World->Prop}(hgd:o.guard=none)(s x:Operand)(t:TypeId)
 (ho:o.op= .call {callee:= .builtin .append,args:=#[s,x],argTypes:=#[t,t]})
 (e:TypeId) (i:TypeInfo) (z:Value) (ht:P.underlying t=some (.slice e)) (hi:P.info? e=some i) (hz:i.zero=some z) (hsize:i.size=3) (hby:i.bytes=40) (hzs:z.cells.size=3)
 {W wr w1:World} {v:Value} {ks:List Tr} {tr:Tr} {v0 v1 v2:Value} {gx:Nat} (hs:a.eval s=v) (hG:Grow W wr e v ks) (hW:W.heap.size<=wr.heap.size) (C5:Ext wr w1) (hM:Made wr w1 e tr (.agg #[v0,v1,v2])) (F8:Ext w1 w)
 (hx:a.eval x= .slice (some ⟨gx,0,none⟩) 1 1) (hgx:w.heap[gx]? =some (.cells #[v0,v1,v2] e (0,0))) (hn:ks.length < 1099511627776)
 (h: ∀v' w',Grow W w' e v' (ks++ [tr])->Below W.heap.size wr w'->Hid (∀(b:Nat) (cs:Array Value) (e':TypeId) (r:Nat×Nat),w.heap[b]? =some (Obj.cells cs e' r)->e'≠e->w'.heap[b]? =some (Obj.cells cs e' r))->wpList P ops Q rest (a.put o.dst v') w'):wpList P ops Q (o::rest) a w:=by
 refine wpList_plain hgd fun K hK=> ?_
 obtain⟨xs,L,h1,h2,h3,h4⟩:=hG;have s1:=C5.size;have s2:=F8.size;have hown:w.ownsRow W.heap.size e 3 v ks.length xs:=j24 h1 (fun g hg=>(C5.trans F8).heap g (h1.lt g hg).2);obtain⟨v',w',hr,r1,r2,r3⟩:=y18 (P:=P) w W.heap.size t o.type e i z 3 40 ht hi hz hsize hby hzs (by decide) v ks.length xs hown ⟨gx,0,none⟩ 1 1 [v0,v1,v2] rfl (q60 hgx) (j54 hM) (by unfold maxLen;omega) (by omega) (by omega);obtain⟨g1,g2⟩:=Grow.step h2 h3 (fun g hg=>⟨h4 g hg,(h1.lt g hg).2,(h1.lt g hg).1⟩) h1.1 hW C5 hM F8 r1 r2 r3;unfold Oper.wp execOp;simp only[ho,resolve,invoke,builtin,Sem.run_bind,Sem.run_pure,Result.andThen_ok,List.map_toArray,List.map_cons,List.map_nil,hs,hx,hr];refine hK _ _ (h v' w' g1 g2 (hdq fun b cs e' r hb hne=>(r2.block b (j10 hb) fun hv=> ?_).trans hb));rcases hown.2 with⟨h5,-⟩ |⟨g,c,cur,h5,-,hg,-⟩
 · rw[h5] at hv;simp[Value.ownBlock] at hv
 · rw[h5] at hv
   simp only[Value.ownBlock,Option.some.injEq] at hv;subst hv;rw[hg] at hb;simp only[Option.some.injEq,Obj.cells.injEq] at hb;exact hne hb.2.1.symm
theorem y117:RdC 0:=by
 intro D l w hD hW hl;obtain rfl:D=31:=by omega
 have HK:=hdq (fun W=> j102 l W);obtain⟨K,hK⟩: ∃K,khd l=K:=⟨_,rfl⟩;rw[hK] at HK
 show Calls _ _ _ _ fun e w'=> ∃u,e= .returned (.tuple #[u,.string ⟨#[]⟩,.bool false])/\Made w w' 26 y14 u/\Ext w w'
 obtain⟨q,hq⟩: ∃q,decide (K < 0)=q:=⟨_,rfl⟩;clear hK;cases q
 all_goals
  go_enter Tryz.func27,Tryz.ntmps27;go_wp2_with fail;refine(HK.out _).mono ?_;rintro e w1 ⟨rfl,h1⟩;have hb:=(blk1 h1).1;have hx:=h1.pre;obtain⟨s0,s1,s2,f0,f1,f2⟩:=own3 hb;go_wp2_with fail;refine bodyPost_ret (v:= .tuple #[.agg #[.int .i64 0,.int .i64 0,.slice none 0 0],.string ⟨#[]⟩,.bool false]) (by simp[results,Tryz.results27,go_sem,s0,s1,s2]) rfl ⟨_,rfl,Made.leaf _ _ _ 0 0, ?_⟩;exact((hx.setCell (by simp) _).setCell (by simp) _).setCell (by simp) _
theorem j107(d:Nat)(hd:d < 30)(ih:RdC d):RdC (d+1):=by
 intro D l w hD hW hl;obtain⟨R,hR⟩: ∃R,rdT (d+1) l=R:=⟨_,rfl⟩;rw[hR];have hD30:decide (30 < D)=false:=decide_eq_false (by omega);have hDw:IntKind.i64.wrap (D+1)=D+1:=IntWalk.i64_in _ ⟨by omega,by omega⟩;have HK:=hdq (fun W=> j102 l W);have hx0:=(xr w).alloc (.cells #[.int .i64 0,.int .i64 0,.slice none 0 0] 26);rcases j168 l with hneg|⟨gi,gf,hne⟩
 · have W9:=hR.symm.trans (rdT_neg (d:=d) (by omega))
   rw[hneg] at HK;have N9:=hdq W9;clear hR W9 hneg;go_enter Tryz.func27,Tryz.ntmps27;go_wp2_with fail;refine(HK.out _).mono ?_;rintro e w1 ⟨rfl,h1⟩;have hb:=(blk1 h1).1;have hx:=h1.pre;obtain⟨s0,s1,s2,f0,f1,f2⟩:=own3 hb;go_wp2_with fail;rw[N9.out];refine bodyPost_ret (v:= .tuple #[.agg #[.int .i64 0,.int .i64 0,.slice none 0 0],.string ⟨#[]⟩,.bool false]) (by simp[results,Tryz.results27,go_sem,s0,s1,s2]) rfl ⟨_,rfl,Made.leaf _ _ _ 0 0, ?_⟩;exact((hx.setCell (by simp) _).setCell (by simp) _).setCell (by simp) _
 obtain⟨kk,nt,R5⟩: ∃kk:Nat,khd l=(kk:Int)+1/\kk < 16:=⟨(khd l - 1).toNat,by omega,by omega⟩;by_cases hnum:khd l=1\/khd l=2
 · have W9:=hR.symm.trans (rdT_num (d:=d) hnum)
   have Oo:0 < l.length:=List.length_pos_iff.2 hne;have HN:=hdq (fun W (hx:Ext w W)=> q98 (l.drop 1) (by rw[List.length_drop];omega) W (hW.ext hx));obtain⟨⟨v,y⟩,hvy⟩: ∃x,rdN (l.drop 1)=x:=⟨_,rfl⟩;rw[hvy] at W9 HN;have D2:(ofL l).extract 1 (ofL l).size=ofL (l.drop 1):=y142 l 1;obtain⟨l1,M6⟩: ∃l1,l.drop 1=l1:=⟨_,rfl⟩;rw[M6] at HN D2;obtain⟨s,hs⟩: ∃s,s=ofL l:=⟨_,rfl⟩;rw[<-hs] at HK D2⊢;have hsz:1<=s.size:=by rw[hs,j17];omega
   obtain⟨K,hK⟩: ∃K,khd l=K:=⟨_,rfl⟩;rw[hK] at HK W9 hnum;have N9:=hdq W9;have U3:decide (K < 0)=false:=decide_eq_false (by omega);have Gx:s.size<=1000000000:=by rw[hs,j17];exact hl
   obtain⟨q,hq⟩: ∃q,decide (0<=v)=q:=⟨_,rfl⟩;clear hR W9 hvy hs nt gi gf hK Oo hl M6;rcases hnum with rfl|rfl
   · cases q
     · go_enter Tryz.func27,Tryz.ntmps27
       go_wp2_with fail;refine(HK.out _).mono ?_;rintro e w1 ⟨rfl,h1⟩;have hb:=(blk1 h1).1;have hx:=h1.pre;obtain⟨s0,s1,s2,f0,f1,f2⟩:=own3 hb;go_wp2_with fail;refine(HN.out _ (hx.trans ((xr w1).alloc _))).mono ?_;rintro e w2 ⟨rfl,h2⟩;have P3:=(blk1 h2).1;have hx2:=hx.trans h2.pre;obtain⟨y0,y1,y2,g0,g1,g2⟩:=own3 P3;obtain⟨z0,z1,z2,e0,e1,e2⟩:=own3 (h2.pre.blk hb);have i6:w.heap.size < w1.heap.size:=j10 hb;clear s0 s1 s2 f0 f1 f2 hb;go_wp2_with fail;rw[N9.out];refine bodyPost_ret (v:= .tuple #[.agg #[.int .i64 1,.int .i64 v,.slice none 0 0],.string (ofL y),.bool false]) (by simp[results,Tryz.results27,go_sem,z0,z1,z2]) rfl ⟨_,by simp[hq],Made.leaf _ _ _ _ _, ?_⟩;exact((((hx2.setCell (p:=⟨w1.heap.size,1,none⟩) (Nat.le_of_lt i6) _).setCell (by simp) _).setCell (by simp) _).setCell (by simp) _)
     · go_enter Tryz.func27,Tryz.ntmps27
       go_wp2_with fail;refine(HK.out _).mono ?_;rintro e w1 ⟨rfl,h1⟩;have hb:=(blk1 h1).1;have hx:=h1.pre;obtain⟨s0,s1,s2,f0,f1,f2⟩:=own3 hb;go_wp2_with fail;refine(HN.out _ (hx.trans ((xr w1).alloc _))).mono ?_;rintro e w2 ⟨rfl,h2⟩;have P3:=(blk1 h2).1;have hx2:=hx.trans h2.pre;obtain⟨y0,y1,y2,g0,g1,g2⟩:=own3 P3;obtain⟨z0,z1,z2,e0,e1,e2⟩:=own3 (h2.pre.blk hb);have i6:w.heap.size < w1.heap.size:=j10 hb;clear s0 s1 s2 f0 f1 f2 hb;go_wp2_with fail;rw[N9.out];refine bodyPost_ret (v:= .tuple #[.agg #[.int .i64 1,.int .i64 v,.slice none 0 0],.string (ofL y),.bool true]) (by simp[results,Tryz.results27,go_sem,z0,z1,z2]) rfl ⟨_,by simp[hq],Made.leaf _ _ _ _ _, ?_⟩;exact((((hx2.setCell (p:=⟨w1.heap.size,1,none⟩) (Nat.le_of_lt i6) _).setCell (by simp) _).setCell (by simp) _).setCell (by simp) _)
   · cases q
     · go_enter Tryz.func27,Tryz.ntmps27
       go_wp2_with fail;refine(HK.out _).mono ?_;rintro e w1 ⟨rfl,h1⟩;have hb:=(blk1 h1).1;have hx:=h1.pre;obtain⟨s0,s1,s2,f0,f1,f2⟩:=own3 hb;go_wp2_with fail;refine(HN.out _ (hx.trans ((xr w1).alloc _))).mono ?_;rintro e w2 ⟨rfl,h2⟩;have P3:=(blk1 h2).1;have hx2:=hx.trans h2.pre;obtain⟨y0,y1,y2,g0,g1,g2⟩:=own3 P3;obtain⟨z0,z1,z2,e0,e1,e2⟩:=own3 (h2.pre.blk hb);have i6:w.heap.size < w1.heap.size:=j10 hb;clear s0 s1 s2 f0 f1 f2 hb;go_wp2_with fail;rw[N9.out];refine bodyPost_ret (v:= .tuple #[.agg #[.int .i64 2,.int .i64 v,.slice none 0 0],.string (ofL y),.bool false]) (by simp[results,Tryz.results27,go_sem,z0,z1,z2]) rfl ⟨_,by simp[hq],Made.leaf _ _ _ _ _, ?_⟩;exact((((hx2.setCell (p:=⟨w1.heap.size,1,none⟩) (Nat.le_of_lt i6) _).setCell (by simp) _).setCell (by simp) _).setCell (by simp) _)
     · go_enter Tryz.func27,Tryz.ntmps27
       go_wp2_with fail;refine(HK.out _).mono ?_;rintro e w1 ⟨rfl,h1⟩;have hb:=(blk1 h1).1;have hx:=h1.pre;obtain⟨s0,s1,s2,f0,f1,f2⟩:=own3 hb;go_wp2_with fail;refine(HN.out _ (hx.trans ((xr w1).alloc _))).mono ?_;rintro e w2 ⟨rfl,h2⟩;have P3:=(blk1 h2).1;have hx2:=hx.trans h2.pre;obtain⟨y0,y1,y2,g0,g1,g2⟩:=own3 P3;obtain⟨z0,z1,z2,e0,e1,e2⟩:=own3 (h2.pre.blk hb);have i6:w.heap.size < w1.heap.size:=j10 hb;clear s0 s1 s2 f0 f1 f2 hb;go_wp2_with fail;rw[N9.out];refine bodyPost_ret (v:= .tuple #[.agg #[.int .i64 2,.int .i64 v,.slice none 0 0],.string (ofL y),.bool true]) (by simp[results,Tryz.results27,go_sem,z0,z1,z2]) rfl ⟨_,by simp[hq],Made.leaf _ _ _ _ _, ?_⟩;exact((((hx2.setCell (p:=⟨w1.heap.size,1,none⟩) (Nat.le_of_lt i6) _).setCell (by simp) _).setCell (by simp) _).setCell (by simp) _)
 · have W9:=hR.symm.trans (j211 (d:=d) (by omega) hnum)
   have hKn:khd l≠1/\khd l≠2:=⟨fun h=> hnum (.inl h),fun h=> hnum (.inr h)⟩;have Oo:0 < l.length:=List.length_pos_iff.2 hne;obtain⟨fe,D2⟩:=q42 kk R5;rw[<-nt] at fe;have hpl:(prt (khd l)).length<=5/\1<=(prt (khd l)).length:=by
    rw[nt];rcases(by omega:kk=0\/kk=1\/kk=2\/kk=3\/kk=4\/kk=5\/kk=6\/kk=7\/kk=8\/kk=9\/kk=10\/kk=11\/kk=12\/kk=13\/kk=14\/kk=15) with h|h|h|h|h|h|h|h|h|h|h|h|h|h|h|h <;>(rw[h];decide)
   obtain⟨P,hP⟩: ∃P,decide (l.head?=some 40)=P:=⟨_,rfl⟩;have Od:P=true->khd l=3:=fun h=> khd_par (by rw[h] at hP;exact of_decide_eq_true hP)
   obtain⟨c0,l9,rfl⟩: ∃c r,l=c::r:=by
    cases l with
    |nil=> exact absurd rfl hne
    |cons c r=> exact⟨c,r,rfl⟩
   obtain⟨p0,pt,gp⟩: ∃p0 pt,prt (khd (c0::l9))=p0::pt:=by
    cases hq:prt (khd (c0::l9)) with
    |nil=> rw[hq] at hpl;simp at hpl
    |cons a b=> exact⟨a,b,rfl⟩
   have Dd:P=true->pt= [[62], [41]]:=fun h=> by
    have:=Od h;rw[this] at gp;have e:prt 3= [[40], [62], [41]]:=rfl;rw[e] at gp
    injection gp with _ h2
    exact h2.symm
   rw[gp] at W9 hpl fe;rw[hP] at W9;simp only[List.tail_cons,List.headD_cons,List.length_cons] at W9 hpl;obtain⟨sh,hsh⟩: ∃sh,sh=shpL.getD kk []:=⟨_,rfl⟩;have bk:=hdq (fun W=>(show Calls Tryz.prog 53 #[] W (fun e w'=> ∃b,e= .returned (.slice (some ⟨b,0,none⟩) 16 16)/\w'.cell? ⟨b,kk,none⟩=some (.string (ofL sh))/\Ext W w') from(j40 W).mono (by
    rintro e w' ⟨b,h1,h2,h3⟩;exact⟨b,h1,by rw[hsh];exact h2 kk R5,h3⟩)))
   rw[<-hsh] at fe D2;have U5:=hdq (fun W (hx:Ext w W)=> q71 sh 46 (p0::pt) fe W (hW.ext hx).1 (by omega));have Fw:=hdq (fun p W=> j28 (c0::l9) p W);have bl:((c0.toNat:Int)==40)=P:=by
    rw[<-hP];by_cases h:c0=40
    · subst h;rfl
    · rw[decide_eq_false (by simp[h])]
      exact beq_eq_false_iff_ne.2 (fun e=> h (UInt8.toNat_inj.1 (show c0.toNat=40 by omega)))
   obtain⟨q0,uw⟩: ∃q,c0.toNat=q:=⟨_,rfl⟩;rw[uw] at bl;have dw:(q0==40)=P:=by
    rw[<-bl];by_cases h:q0=40
    · subst h;rfl
    · rw[beq_eq_false_iff_ne.2 h,beq_eq_false_iff_ne.2 (by omega)]
   have ry:(c0::l9).length<=1000000000:=hl;obtain⟨s,hs⟩: ∃s,s=ofL (c0::l9):=⟨_,rfl⟩;have hsz:0 < s.size:=by rw[hs,j17];simp
   have hs0:(s[0]'hsz).toNat=q0:=by subst hs;exact uw
   have fo:=q38 (c0::l9) p0;rw[<-hs] at HK Fw⊢;obtain⟨K,hK⟩: ∃K,khd (c0::l9)=K:=⟨_,rfl⟩;rw[hK] at HK W9 hnum nt gi gf hKn Od;have U3:decide (K < 0)=false:=decide_eq_false (by omega);have I9:(K==1)=false:=beq_eq_false_iff_ne.2 hKn.1;have hK2:(K==2)=false:=beq_eq_false_iff_ne.2 hKn.2;have hKw:IntKind.i64.wrap (K - 1)=(kk:Int):=by rw[show K - 1=(kk:Int) by omega];exact IntWalk.i64_in _ ⟨by omega,by omega⟩
   have Iz:(kk:Int) < 16:=by omega
   have vo:(0:Int)<=(kk:Int):=by omega
   have N9:=hdq W9;have yl:=hdq Dd;have dr:=hdq (Nat.le_trans fo ry);obtain⟨i0,hi,hz0,hz1,hz2⟩:=info_parts y170;have po:pt.length+1<=5:=hpl.1;clear hR W9 nt gi gf hK Oo hl Dd fo ry hpl fe D2 hsh uw hs hne hP Od gp hnum hKn;go_enter Tryz.func27,Tryz.ntmps27;go_wp2_with fail;refine(HK.out _).mono ?_;rintro e w1 ⟨rfl,h1⟩;have hb:=(blk1 h1).1;have hx:=h1.pre;have i6:w.heap.size < w1.heap.size:=j10 hb;go_wp2_with fail;refine(bk.out _).mono ?_;rintro e w2 ⟨bs,rfl,hcs,h2⟩;have P3:=(blk1 h2).1;have hx2:=hx.trans h2.pre;have hb4:=h2.pre.blk hb;clear hb h1;go_wp2_with fail;refine(U5.out _ hx2).mono ?_;rintro e w3 ⟨bp,rfl,nb,h3⟩;have mj:=h3.blk P3;have N6:=h3.blk hb4;have hx3:=hx2.trans h3;have Ax:=q53 nb (j:=0) (by simp);obtain⟨QS,Lx⟩: ∃q,q=p0::pt:=⟨_,rfl⟩;rw[<-Lx] at nb;simp only[List.getElem_cons_zero,List.length_cons] at Ax⊢;have HCS:=hdq nb;have HQS:=hdq Lx;have Ma:=h2.pre.size;have My:=h3.size;have hp1:(0:Int) <(pt.length:Int)+1:=by omega
   have hp2:0 < pt.length+1:=by omega
   clear nb hcs P3 hb4 Lx;go_wp2_with fail;refine(Fw.out p0 _).mono ?_;rintro e w4 ⟨rfl,rfl⟩;clear Fw U5 bk HK Ax;obtain⟨Y0,Og⟩: ∃y,Lib.trimPrefix (c0::l9) p0=y:=⟨_,rfl⟩;obtain⟨B0,qq⟩: ∃b,Lib.hasPrefix (c0::l9) p0=b:=⟨_,rfl⟩;rw[Og] at N9 dr;rw[qq] at N9;rw[Og,qq];obtain⟨g8,Pz⟩: ∃g,g=w1.heap.size:=⟨_,rfl⟩;obtain⟨g4,hg4⟩: ∃g,g=w.heap.size:=⟨_,rfl⟩;obtain⟨W8,Je⟩: ∃x,x=w1.alloc (.cells #[.int .i64 K,.int .i64 0,.slice none 0 0] 26):=⟨_,rfl⟩;have hW8s:W8.heap.size=g8+1:=by rw[Je,Pz];simp
   have hWE:Ext W8 w4:=by rw[Je];exact h2.trans h3
   have hg48:g4 < g8:=by omega
   rw[<-Pz] at mj⊢;rw[<-hg4] at N6⊢;have qx:w.heap.size=g4:=hg4.symm;clear Og qq Pz hg4 Je h2 h3 hx2 Ma My hx i6;go_wp2_with fail
   go_loopw [11,12,13,14] (fun pa re okv i wr=> ∃(j n bp:Nat) (k:Int) (qs ps:List (List UInt8)) (ks:List Tr) (A:Option Addr) (cap:Nat) (y:List UInt8) (ok:Bool),i= .int .i64 ((j:Int)+1)/\pa= .slice (some ⟨bp,0,none⟩) n n/\Hid (qs.length=n)/\Hid (qs.drop (j+1)=ps)/\n<=5/\j+1<=n/\Hid (wr.heap[bp]? =some (.cells (strs qs).toArray 9 (0,0)))/\re= .string (ofL y)/\Hid (y.length<=1000000000)/\okv= .bool ok/\
    wr.heap[g8]? =some (.cells #[.int .i64 k,.int .i64 0,.slice A ks.length cap] 26 (0,0))/\wr.heap[g4]? =some (.cells #[.int .i64 0,.int .i64 0,.slice none 0 0] 26 (0,0))/\Hid (Grow W8 wr 26 (.slice A ks.length cap) ks)/\Hid (ks.length=j)/\Ext w wr/\W8.heap.size<=wr.heap.size/\Hid (rdL (rdT d) P (decide (j=0)) ps k ks y ok=R)/\Hid (j=0->P=true->ps= [[62], [41]])) (fun _ _ _ i _=> 6 -(intOf i).toNat)
   case atStart=> exact⟨0,pt.length+1,bp,K,QS,pt, [],none,0,Y0,B0,rfl,rfl,hdq (by rw[HQS.out];simp),hdq (by rw[HQS.out];rfl),po,by omega,HCS,rfl,dr,rfl,mj,N6,hdq (Grow.nil _ _ _),hdq rfl,hx3,hWE.size,hdq N9.out.symm,hdq (fun _=> yl.out)⟩
   case round=>
    obtain⟨j,n,bq,k,qs,ps,ks,A,cap,y,ok,rfl,rfl,Bz,HPS,Hb,hjn,HC,rfl,HYL,rfl,P3,hb4,HG,HKJ,aj,hWr,fh,HP3⟩:=hrel;have hj5:j < 5:=by omega
    have hks5:ks.length < 5:=by have:=HKJ.out;omega
    have hpl:ps.length+(j+1)=n:=by have:=congrArg List.length HPS.out;rw[List.length_drop,Bz.out] at this;omega
    obtain⟨z0,z1,z2,e0,e1,e2⟩:=own3 P3;obtain⟨y0,y1,y2,f0,f1,f2⟩:=own3 hb4;cases ps with
    |nil=>
     have C3:=fh.out;rw[q178] at C3;obtain⟨A',cap',hv,q1,q2,hM⟩:=HG.out.made;simp only[Value.slice.injEq,true_and] at hv;obtain⟨rfl,rfl⟩:=hv;have Ml:w.heap.size<=W8.heap.size:=by omega
     have R8:=hdq C3;have Pj: ¬((j:Int)+1 <(n:Int)):=by simp only[List.length_nil] at hpl;omega
     have Ka: ¬(j+1 < n):=by simp only[List.length_nil] at hpl;omega
     clear C3 hpl;go_wp2_with fail;rw[<-R8.out];refine bodyPost_ret (v:= .tuple #[.agg #[.int .i64 k,.int .i64 0,.slice A ks.length cap],.string (ofL y),.bool ok]) (by simp[results,Tryz.results27,go_sem,y0,y1,y2]) rfl ⟨_,rfl,Made.since ((Made.mk q1 q2 hM).after ((((q23.refl _ _).setCell (p:=⟨g4,0,none⟩) (by show g4 < _;omega) _).setCell (p:=⟨g4,1,none⟩) (by show g4 < _;omega) _).setCell (p:=⟨g4,2,none⟩) (by show g4 < _;omega) _)) Ml, ?_⟩
     · exact((aj.setCell (p:=⟨g4,0,none⟩) (Nat.le_of_eq qx) _).setCell (p:=⟨g4,1,none⟩) (Nat.le_of_eq qx) _).setCell (p:=⟨g4,2,none⟩) (Nat.le_of_eq qx) _
    |cons p ps=>
     have Pj:(j:Int)+1 <(n:Int):=by simp only[List.length_cons] at hpl;omega
     have Ka:j+1 < n:=by omega
     cases ok with
     |false=>
      have C3:=fh.out;rw[q198] at C3;obtain⟨A',cap',hv,q1,q2,hM⟩:=HG.out.made;simp only[Value.slice.injEq,true_and] at hv;obtain⟨rfl,rfl⟩:=hv;have Ml:w.heap.size<=W8.heap.size:=by omega
      have R8:=hdq C3;clear C3 hpl;go_wp2_with fail;rw[<-R8.out];refine bodyPost_ret (v:= .tuple #[.agg #[.int .i64 k,.int .i64 0,.slice A ks.length cap],.string (ofL y),.bool false]) (by simp[results,Tryz.results27,go_sem,y0,y1,y2]) rfl ⟨_,rfl,Made.since ((Made.mk q1 q2 hM).after ((((q23.refl _ _).setCell (p:=⟨g4,0,none⟩) (by show g4 < _;omega) _).setCell (p:=⟨g4,1,none⟩) (by show g4 < _;omega) _).setCell (p:=⟨g4,2,none⟩) (by show g4 < _;omega) _)) Ml, ?_⟩;exact((aj.setCell (p:=⟨g4,0,none⟩) (Nat.le_of_eq qx) _).setCell (p:=⟨g4,1,none⟩) (Nat.le_of_eq qx) _).setCell (p:=⟨g4,2,none⟩) (Nat.le_of_eq qx) _
     |true=>
      have rj:=hdq (fun(W:World) (hx:Ext w W)=> ih (D+1) y W (by omega) (hW.ext hx) HYL.out);obtain⟨⟨t,z,fine⟩,hF⟩: ∃x,rdT d y=x:=⟨_,rfl⟩;rw[hF] at rj;have HF:=hdq hF;have Kr:=hdq (show z.length<=1000000000 from by have:=y161 d y;rw[hF] at this;exact Nat.le_trans this HYL.out);clear hF z0 z1 z2 e0 e1 e2 y0 y1 y2 f0 f1 f2;go_wp2_with fail;refine(rj.out wr aj).mono ?_;rintro e w5 ⟨u,rfl,hM,h5⟩;obtain⟨b1,b2,b3,b4,b5,rfl⟩:=hM.three;have pw:=aj.trans h5;cases fine with
      |false=>
       have C3:=fh.out;rw[y200 HF.out] at C3;have R8:=hdq C3;obtain⟨y0,y1,y2,f0,f1,f2⟩:=own3 ((h5.alloc (.cells #[.int .i64 b1,.int .i64 b2,.slice b3 b4 b5] 26)).blk hb4);clear C3;go_wp2_with fail;rw[<-R8.out];refine bodyPost_ret (v:= .tuple #[.agg #[.int .i64 0,.int .i64 0,.slice none 0 0],.string ⟨#[]⟩,.bool false]) (by simp[results,Tryz.results27,go_sem,y0,y1,y2]) rfl ⟨_,rfl,Made.leaf _ _ _ 0 0, ?_⟩;exact(((pw.alloc _).setCell (p:=⟨g4,0,none⟩) (Nat.le_of_eq qx) _).setCell (p:=⟨g4,1,none⟩) (Nat.le_of_eq qx) _).setCell (p:=⟨g4,2,none⟩) (Nat.le_of_eq qx) _
      |true=>
       have mj:=h5.blk P3;obtain⟨z0,z1,z2,e0,e1,e2⟩:=own3 mj;have hs5:=h5.size;have hg8w:g8 < w5.heap.size:=by omega
       have uq:=HG.out;have hWl:=hWr;have HLEN:=hdq (show(ks++ [t]).length=j+1 by rw[List.length_append,HKJ.out];rfl);have hcq:=(h5.alloc (.cells #[.int .i64 b1,.int .i64 b2,.slice b3 b4 b5] 26)).alloc (.cells #[.int .i64 b1,.int .i64 b2,.slice b3 b4 b5] 26) |>.blk HC.out
       have HCQ:=hdq hcq;clear hcq;go_wp2_with (at_builtin;refine y66 _ (by rfl) (.tmp 82) (.tmp 84) _ (by rfl) 26 i0 _ Tryz.underlying24 hi hz0 hz1 hz2 rfl (by rfl) uq (by omega) h5 hM (((xr _).alloc _).alloc _) (by rfl) (by first|exact q156 _ _ _|exact heap_alloc_new _ _) (by omega) ?_)
       intro v' w6 xa Bu Hk;have ln:=Hk.out _ _ _ _ _ HCQ.out (by decide);obtain⟨A6,c6,rfl,q1,q2,-⟩:=xa.made;obtain⟨ks',vk⟩: ∃x,x=ks++ [t]:=⟨_,rfl⟩;rw[<-vk] at xa HLEN⊢;have gu:Ext w w6:=Below.trans aj (Below.mono Bu (by omega));have N2:=(Bu.block g8 (by omega)).trans P3;have U2:=(Bu.block g4 (by omega)).trans hb4;have hs6:=Bu.size;have C7:=hdq vk;have HG6:=hdq xa;clear z0 z1 z2 e0 e1 e2 P3 hb4 mj vk xa Bu Hk HCQ;obtain⟨y0,y1,y2,f0,f1,f2⟩:=own3 N2;obtain⟨Eh,Ix⟩: ∃hlt:j+1 < qs.length,qs[j+1]=p/\qs.drop (j+1+1)=ps:=by
        have h1:=HPS.out;have h2:j+1 < qs.length:=by rw[Bz.out];omega
        rw[List.drop_eq_getElem_cons h2] at h1
        injection h1 with e1 e2
        exact⟨h2,e1,e2⟩
       have nb:w6.cell? ⟨bq,j+1,none⟩=some (.string (ofL p)):=by rw[q53 ln Eh,Ix.1]
       have hbg:bq≠g8:=by
        rintro rfl;rw[N2] at ln;simp at ln
       have Gi:=hdq Ix.2;have oh:=hdq ln;have qf:IntKind.i64.wrap ((j:Int)+1+1)=(j:Int)+1+1:=IntWalk.i64_in _ ⟨by omega,by omega⟩;have Gn:=hdq (show(Lib.trimPrefix z p).length<=1000000000 from Nat.le_trans (q38 z p) Kr.out);have V4:w.heap.size<=g8:=by omega
       have ny:=hdq (fun W=> j28 z p W);have ol:=hdq (show Grow W8 (w6.setCell ⟨g8,2,none⟩ (.slice A6 ks'.length c6)) 26 (.slice A6 ks'.length c6) ks' from HG6.out.after ((q23.refl _ _).setCell (p:=⟨g8,2,none⟩) (by show g8 < _;omega) _));have C3: ¬(P=true/\decide (j=0)=true/\z≠ [])->rdL (rdT d) P false ps k ks' (Lib.trimPrefix z p) (Lib.hasPrefix z p)=R:=fun h=> by
        rw[<-fh.out,rdL_go HF.out h,C7.out]
       have R8:=hdq C3;have K7:g4≠g8:=by omega
       have NOT:=hdq (fun(h:j+1=0) (_:P=true)=>(show ps= [[62], [41]] from absurd h (by omega)));clear ln Ix C3;by_cases hP1:P=false
       · subst hP1
         go_wp2_with fail;refine(ny.out _).mono ?_;rintro e w7 ⟨rfl,rfl⟩;go_wp2_with fail
         go_roundw
         case rel=> exact⟨_+1,n,bq,k,qs,ps,ks',A6,c6,_,_,by go_num,rfl,Bz,Gi,Hb,by omega,hdq (q12 oh.out hbg _),rfl,Gn,rfl,q11 N2 2 _,q12 U2 K7 _,ol,HLEN,gu.setCell (p:=⟨g8,2,none⟩) V4 _,by simp;omega,hdq (R8.out (by simp_all)),NOT⟩
         case measure=> simp[intOf];omega
       obtain rfl:P=true:=by simpa using hP1
       by_cases nj: ¬j=0
       · have S9:(((j:Int)+1)==1)=false:=beq_eq_false_iff_ne.2 (by omega)
         have ib:((j:Int)==0)=false:=beq_eq_false_iff_ne.2 (by omega);have hj3:(j==0)=false:=beq_eq_false_iff_ne.2 nj;go_wp2_with fail;refine(ny.out _).mono ?_;rintro e w7 ⟨rfl,rfl⟩;go_wp2_with fail
         go_roundw
         case rel=> exact⟨_+1,n,bq,k,qs,ps,ks',A6,c6,_,_,by go_num,rfl,Bz,Gi,Hb,by omega,hdq (q12 oh.out hbg _),rfl,Gn,rfl,q11 N2 2 _,q12 U2 K7 _,ol,HLEN,gu.setCell (p:=⟨g8,2,none⟩) V4 _,by simp;omega,hdq (R8.out (by simp_all)),NOT⟩
         case measure=> simp[intOf];omega
       obtain rfl:j=0:=by omega
       cases z with
       |nil=>
        have hze:(ofL []).toList.isEmpty=true:=by rw[j85];rfl
        go_wp2_with fail;refine(ny.out _).mono ?_;rintro e w7 ⟨rfl,rfl⟩;go_wp2_with fail
        go_roundw
        case rel=> exact⟨_+1,n,bq,k,qs,ps,ks',A6,c6,_,_,by go_num,rfl,Bz,Gi,Hb,by omega,hdq (q12 oh.out hbg _),rfl,Gn,rfl,q11 N2 2 _,q12 U2 K7 _,ol,HLEN,gu.setCell (p:=⟨g8,2,none⟩) V4 _,by simp;omega,hdq (R8.out (by simp_all)),NOT⟩
        case measure=>(simp[intOf];try omega)
       |cons b zr=>
        have hze:(ofL (b::zr)).toList.isEmpty=false:=by rw[j85];rfl
        obtain⟨m,hm⟩: ∃m,b.toNat=m:=⟨_,rfl⟩;have Nu:=HP3.out rfl rfl
        injection Nu with _ hps1
        have xd:=fh.out;rw[show decide (0=0)=true from rfl,rdL_par HF.out (by simp),hps1] at xd;have cd:=hdq xd;have HM:=hdq hm;obtain⟨Z,hZ⟩: ∃Z,Z=b::zr:=⟨_,rfl⟩;have hzl:0 <(ofL Z).size:=by rw[hZ,j17];simp
        have hb0:((ofL Z)[0]'hzl).toNat=m:=by subst hZ;exact hm
        rw[<-hZ] at cd hze ny⊢;have Kt: ∀c,b=c->j68 Z=j68 (c::zr):=fun c h=> by rw[hZ,h]
        have hsg:(m=32/\j68 Z=5)\/(m=42/\j68 Z=13)\/(m≠32/\m≠42/\j68 Z=3):=by
         by_cases h1:b=32
         · refine .inl ⟨by rw[<-hm,h1];rfl,by rw[Kt 32 h1];rfl⟩
         · by_cases h2:b=42
           · refine .inr (.inl ⟨by rw[<-hm,h2];rfl,by rw[Kt 42 h2];rfl⟩)
           · refine .inr (.inr ⟨fun h=> h1 (UInt8.toNat_inj.1 (by rw[hm,h];rfl)),fun h=> h2 (UInt8.toNat_inj.1 (by rw[hm,h];rfl)), ?_⟩)
             rw[hZ];simp only[j68];rw[if_neg h1,if_neg h2]
        have xi:=hdq (show Z.length<=1000000000 by rw[hZ];exact Kr.out);clear xd hps1 Kt hZ hm R8 NOT Gn Kr fh HF HP3 rj nb oh hbg Gi Eh;rcases hsg with⟨rfl,l8⟩ |⟨rfl,l8⟩ |⟨Ai,xw,l8⟩
        · have K6:=q42 4 (by decide)
          have bk:=hdq (fun W=>(show Calls Tryz.prog 53 #[] W (fun e w'=> ∃b,e= .returned (.slice (some ⟨b,0,none⟩) 16 16)/\w'.cell? ⟨b,4,none⟩=some (.string (ofL (shpL.getD 4 [])))/\Ext W w') from(j40 W).mono (by
           rintro e w' ⟨b,h1,h2,h3⟩;exact⟨b,h1,h2 4 (by decide),h3⟩)))
          have U5:=hdq (fun(W:World) (hx:Ext w W)=> q71 (shpL.getD 4 []) 46 [[40], [32], [41]] (by rw[K6.1];rfl) W (hW.ext hx).1 (by omega));rw[l8] at cd;obtain⟨sh9,Z4⟩: ∃x,shpL.getD 4 []=x:=⟨_,rfl⟩;rw[Z4] at bk U5;clear K6 l8 Z4;have hkw:IntKind.i64.wrap 4=4:=IntWalk.i64_in _ ⟨by omega,by omega⟩;go_wp2_with fail;obtain⟨w7,D9⟩: ∃x,x=(w6.setCell ⟨g8,2,none⟩ (.slice A6 ks'.length c6)).setCell ⟨g8,0,none⟩ (.int .i64 5):=⟨_,rfl⟩;rw[<-D9];have G6:w7.heap[g8]? =some (.cells #[.int .i64 5,.int .i64 0,.slice A6 ks'.length c6] 26 (0,0)):=by rw[D9];exact q11 (q11 N2 2 _) 0 _
          have ag:w7.heap[g4]? =some (.cells #[.int .i64 0,.int .i64 0,.slice none 0 0] 26 (0,0)):=by rw[D9];exact q12 (q12 U2 K7 _) K7 _
          have di:Ext w w7:=by rw[D9];exact(gu.setCell (p:=⟨g8,2,none⟩) V4 _).setCell (p:=⟨g8,0,none⟩) V4 _
          have hs7:w6.heap.size<=w7.heap.size:=by rw[D9];simp
          have Fu:=hdq (show Grow W8 w7 26 (.slice A6 ks'.length c6) ks' from by rw[D9];exact ol.out.after ((q23.refl _ _).setCell (p:=⟨g8,0,none⟩) (by show g8 < _;omega) _));clear D9 y0 y1 y2 f0 f1 f2 ol;obtain⟨y0,y1,y2,f0,f1,f2⟩:=own3 G6
          go_region_law (first
           |(go_simp;go_at_call 53;refine(bk.out _).mono ?_;rintro e w8 ⟨b8,rfl,rp,h8⟩;obtain⟨s0,s1,s2,-,-,-⟩:=own3 (h8.blk ((xr _).drew.blk G6)))
           |(go_simp;go_at_call 52;refine(U5.out _ ((di.trans (xr _).drew).trans h8)).mono ?_;rintro e w9 ⟨b9,rfl,br,h9⟩))
          all_goals(
           have X9:=((xr w7).drew.trans h8).trans h9;have Gx:=X9.size;have ji:=q53 br (j:=1) (by simp);simp only[List.getElem_cons_succ,List.getElem_cons_zero] at ji⊢;have Dh:=hdq br;clear br rp s0 s1 s2 y0 y1 y2 f0 f1 f2;go_wp2_with fail;refine(j28 Z [32] _).mono ?_;rintro e dy ⟨rfl,rfl⟩;go_wp2_with fail
           go_roundw
           case rel=> exact⟨0+1,3,b9,5, [[40], [32], [41]], [[41]],ks',A6,c6,_,_,by go_num,rfl,hdq rfl,hdq rfl,by omega,by omega,Dh,rfl,hdq (Nat.le_trans (q38 _ _) xi.out),rfl,X9.blk G6,X9.blk ag,hdq (Fu.out.ext X9),HLEN,di.trans X9,by omega,hdq (by have:=cd.out;rw[<-C7.out] at this;exact this),hdq (fun h=> absurd h (by omega))⟩
           case measure=>(simp[intOf];try omega))
        · have K6:=q42 12 (by decide)
          have bk:=hdq (fun W=>(show Calls Tryz.prog 53 #[] W (fun e w'=> ∃b,e= .returned (.slice (some ⟨b,0,none⟩) 16 16)/\w'.cell? ⟨b,12,none⟩=some (.string (ofL (shpL.getD 12 [])))/\Ext W w') from(j40 W).mono (by
           rintro e w' ⟨b,h1,h2,h3⟩;exact⟨b,h1,h2 12 (by decide),h3⟩)))
          have U5:=hdq (fun(W:World) (hx:Ext w W)=> q71 (shpL.getD 12 []) 46 [[40], [42], [41]] (by rw[K6.1];rfl) W (hW.ext hx).1 (by omega));rw[l8] at cd;obtain⟨sh9,Z4⟩: ∃x,shpL.getD 12 []=x:=⟨_,rfl⟩;rw[Z4] at bk U5;clear K6 l8 Z4;have hkw:IntKind.i64.wrap 12=12:=IntWalk.i64_in _ ⟨by omega,by omega⟩;go_wp2_with fail;obtain⟨w7,D9⟩: ∃x,x=(w6.setCell ⟨g8,2,none⟩ (.slice A6 ks'.length c6)).setCell ⟨g8,0,none⟩ (.int .i64 13):=⟨_,rfl⟩;rw[<-D9];have G6:w7.heap[g8]? =some (.cells #[.int .i64 13,.int .i64 0,.slice A6 ks'.length c6] 26 (0,0)):=by rw[D9];exact q11 (q11 N2 2 _) 0 _
          have ag:w7.heap[g4]? =some (.cells #[.int .i64 0,.int .i64 0,.slice none 0 0] 26 (0,0)):=by rw[D9];exact q12 (q12 U2 K7 _) K7 _
          have di:Ext w w7:=by rw[D9];exact(gu.setCell (p:=⟨g8,2,none⟩) V4 _).setCell (p:=⟨g8,0,none⟩) V4 _
          have hs7:w6.heap.size<=w7.heap.size:=by rw[D9];simp
          have Fu:=hdq (show Grow W8 w7 26 (.slice A6 ks'.length c6) ks' from by rw[D9];exact ol.out.after ((q23.refl _ _).setCell (p:=⟨g8,0,none⟩) (by show g8 < _;omega) _));clear D9 y0 y1 y2 f0 f1 f2 ol;obtain⟨y0,y1,y2,f0,f1,f2⟩:=own3 G6
          go_region_law (first
           |(go_simp;go_at_call 53;refine(bk.out _).mono ?_;rintro e w8 ⟨b8,rfl,rp,h8⟩;obtain⟨s0,s1,s2,-,-,-⟩:=own3 (h8.blk ((xr _).drew.blk G6)))
           |(go_simp;go_at_call 52;refine(U5.out _ ((di.trans (xr _).drew).trans h8)).mono ?_;rintro e w9 ⟨b9,rfl,br,h9⟩))
          all_goals(
           have X9:=((xr w7).drew.trans h8).trans h9;have Gx:=X9.size;have ji:=q53 br (j:=1) (by simp);simp only[List.getElem_cons_succ,List.getElem_cons_zero] at ji⊢;have Dh:=hdq br;clear br rp s0 s1 s2 y0 y1 y2 f0 f1 f2;go_wp2_with fail;refine(j28 Z [42] _).mono ?_;rintro e dy ⟨rfl,rfl⟩;go_wp2_with fail
           go_roundw
           case rel=> exact⟨0+1,3,b9,13, [[40], [42], [41]], [[41]],ks',A6,c6,_,_,by go_num,rfl,hdq rfl,hdq rfl,by omega,by omega,Dh,rfl,hdq (Nat.le_trans (q38 _ _) xi.out),rfl,X9.blk G6,X9.blk ag,hdq (Fu.out.ext X9),HLEN,di.trans X9,by omega,hdq (by have:=cd.out;rw[<-C7.out] at this;exact this),hdq (fun h=> absurd h (by omega))⟩
           case measure=>(simp[intOf];try omega))
        · have K6:=q42 2 (by decide)
          have bk:=hdq (fun W=>(show Calls Tryz.prog 53 #[] W (fun e w'=> ∃b,e= .returned (.slice (some ⟨b,0,none⟩) 16 16)/\w'.cell? ⟨b,2,none⟩=some (.string (ofL (shpL.getD 2 [])))/\Ext W w') from(j40 W).mono (by
           rintro e w' ⟨b,h1,h2,h3⟩;exact⟨b,h1,h2 2 (by decide),h3⟩)))
          have U5:=hdq (fun(W:World) (hx:Ext w W)=> q71 (shpL.getD 2 []) 46 [[40], [62], [41]] (by rw[K6.1];rfl) W (hW.ext hx).1 (by omega));rw[l8] at cd;obtain⟨sh9,Z4⟩: ∃x,shpL.getD 2 []=x:=⟨_,rfl⟩;rw[Z4] at bk U5;clear K6 l8 Z4;have hkw:IntKind.i64.wrap 2=2:=IntWalk.i64_in _ ⟨by omega,by omega⟩;go_wp2_with fail;obtain⟨w7,D9⟩: ∃x,x=(w6.setCell ⟨g8,2,none⟩ (.slice A6 ks'.length c6)).setCell ⟨g8,0,none⟩ (.int .i64 3):=⟨_,rfl⟩;rw[<-D9];have G6:w7.heap[g8]? =some (.cells #[.int .i64 3,.int .i64 0,.slice A6 ks'.length c6] 26 (0,0)):=by rw[D9];exact q11 (q11 N2 2 _) 0 _
          have ag:w7.heap[g4]? =some (.cells #[.int .i64 0,.int .i64 0,.slice none 0 0] 26 (0,0)):=by rw[D9];exact q12 (q12 U2 K7 _) K7 _
          have di:Ext w w7:=by rw[D9];exact(gu.setCell (p:=⟨g8,2,none⟩) V4 _).setCell (p:=⟨g8,0,none⟩) V4 _
          have hs7:w6.heap.size<=w7.heap.size:=by rw[D9];simp
          have Fu:=hdq (show Grow W8 w7 26 (.slice A6 ks'.length c6) ks' from by rw[D9];exact ol.out.after ((q23.refl _ _).setCell (p:=⟨g8,0,none⟩) (by show g8 < _;omega) _));clear D9 y0 y1 y2 f0 f1 f2 ol;obtain⟨y0,y1,y2,f0,f1,f2⟩:=own3 G6
          go_region_law (first
           |(go_simp;go_at_call 53;refine(bk.out _).mono ?_;rintro e w8 ⟨b8,rfl,rp,h8⟩;obtain⟨s0,s1,s2,-,-,-⟩:=own3 (h8.blk ((xr _).drew.blk G6)))
           |(go_simp;go_at_call 52;refine(U5.out _ ((di.trans (xr _).drew).trans h8)).mono ?_;rintro e w9 ⟨b9,rfl,br,h9⟩))
          all_goals(
           have X9:=((xr w7).drew.trans h8).trans h9;have Gx:=X9.size;have ji:=q53 br (j:=1) (by simp);simp only[List.getElem_cons_succ,List.getElem_cons_zero] at ji⊢;have Dh:=hdq br;clear br rp s0 s1 s2 y0 y1 y2 f0 f1 f2;go_wp2_with fail;refine(j28 Z [62] _).mono ?_;rintro e dy ⟨rfl,rfl⟩;go_wp2_with fail
           go_roundw
           case rel=> exact⟨0+1,3,b9,3, [[40], [62], [41]], [[41]],ks',A6,c6,_,_,by go_num,rfl,hdq rfl,hdq rfl,by omega,by omega,Dh,rfl,hdq (Nat.le_trans (q38 _ _) xi.out),rfl,X9.blk G6,X9.blk ag,hdq (Fu.out.ext X9),HLEN,di.trans X9,by omega,hdq (by have:=cd.out;rw[<-C7.out] at this;exact this),hdq (fun h=> absurd h (by omega))⟩
           case measure=>(simp[intOf];try omega))
theorem q86: ∀d:Nat,d<=30->RdC d
 |0,_=> y117
 |d+1,h=> j107 d (by omega) (q86 d (by omega))
end Go.Proofs.YtbnkbepgmenblaaGreatDoor
