/-
  Lemmas towards the law, 9: Fits, WalkValid, Node, Grow2, Bound, Scan, Row.
-/
import Derived.Test.YtdkamgafpphdjaaGreatUAH
import Derived.Deep.RegionHeld3
import Derived.Deep.RegionWith
set_option maxHeartbeats 1600000
set_option maxRecDepth 100000
namespace Go.Proofs.YtdkamgafpphdjaaGreat
open Go.RowKit
set_option linter.unusedVariables false
def y88(ks:List Tr):Bool:=decide (ks.length<=8)&& !ks.any (fun t=> !valid sigT t)
theorem j79{ks:List Tr}(h:y88 ks=true):ks.length<=8/\ ∀t∈ks,valid sigT t=true:=by
 unfold y88 at h;rw[Bool.and_eq_true,decide_eq_true_eq] at h;refine⟨h.1,fun t ht=> ?_⟩;have h2:=h.2;simp only[Bool.not_eq_true',List.any_eq_false] at h2
 simpa using h2 t ht
theorem q22(n lo hi:Int)(w:World):Calls Tryz.prog 67 #[.int .i64 n,.int .i64 lo,.int .i64 hi] w fun e w'=> e= .returned (.bool (inR n lo hi))/\w=w':=by
 by_cases h1:lo<=n
 · by_cases h2:n<=hi
   · have e:inR n lo hi=true:=q33.2 ⟨h1,h2⟩
     have E:=hdq e;have d1:decide (lo<=n)=true:=by simpa using h1
     have d2:decide (n<=hi)=true:=by simpa using h2
     clear e;go_enter Tryz.func67,Tryz.ntmps67;go_wp2_with fail;go_ret;exact⟨by rw[E.out];rfl,rfl⟩
   · have e:inR n lo hi=false:=y53.2 (.inr (by omega))
     have E:=hdq e;have d1:decide (lo<=n)=true:=by simpa using h1
     have d2:decide (n<=hi)=false:=by simpa using h2
     clear e;go_enter Tryz.func67,Tryz.ntmps67;go_wp2_with fail;go_ret;exact⟨by rw[E.out];rfl,rfl⟩
 · have e:inR n lo hi=false:=y53.2 (.inl (by omega))
   have E:=hdq e;have d1:decide (lo<=n)=false:=by simpa using h1
   clear e;go_enter Tryz.func67,Tryz.ntmps67;go_wp2_with fail;go_ret;exact⟨by rw[E.out];rfl,rfl⟩
theorem j72(k:Int)(w:World):Calls Tryz.prog 148 #[.int .i64 k] w fun e w'=> e= .returned (.int .i64 (opsT k))/\Ext w w':=by
 by_cases h1:inR k 1 16=true
 · have H1:=hdq h1
   have h2:=q33.1 h1;clear h1;have hcs: ∀j:Nat,j < 16->k=(j:Int)+1->Calls Tryz.prog 148 #[.int .i64 k] w fun e w'=> e= .returned (.int .i64 (opsT k))/\Ext w w':=by
    intro j hj hk;subst hk;have HX:=H1;go_enter Tryz.func148,Tryz.ntmps148;go_wp2_with (go_at_call 67;refine(q22 _ _ _ _).mono ?_;rw[HX.out];rintro e w1 ⟨rfl,rfl⟩)
    go_ret;refine⟨?_,(xr _).alloc _⟩;rcases(by omega:j=0\/j=1\/j=2\/j=3\/j=4\/j=5\/j=6\/j=7\/j=8\/j=9\/j=10\/j=11\/j=12\/j=13\/j=14\/j=15) with rfl|rfl|rfl|rfl|rfl|rfl|rfl|rfl|rfl|rfl|rfl|rfl|rfl|rfl|rfl|rfl <;> rfl
   exact hcs (k - 1).toNat (by omega) (by omega)
 · have h2:inR k 1 16=false:=by simpa using h1
   have H2:=hdq h2;have h3:=y53.1 h2;have e:opsT k= -1:=by
    unfold opsT
    repeat rw[if_neg (by omega)]
   have E:=hdq e;clear h1 h2 e;go_enter Tryz.func148,Tryz.ntmps148;go_wp2_with (go_at_call 67;refine(q22 _ _ _ _).mono ?_;rw[H2.out];rintro e w1 ⟨rfl,rfl⟩)
   go_ret;exact⟨by rw[E.out];rfl,xr _⟩
theorem j55(k:Int)(w:World):Calls Tryz.prog 149 #[.int .i64 k] w fun e w'=> e= .returned (.int .i64 (q28 k))/\w=w':=by
 by_cases h1:k=1
 · have e:q28 k=20:=by simp[q28,h1]
   have E:=hdq e;have d1:(k==1)=true:=by simpa using h1
   clear e h1;go_enter Tryz.func149,Tryz.ntmps149;go_wp2_with fail;go_ret;exact⟨by rw[E.out];rfl,rfl⟩
 · have d1:(k==1)=false:=by simpa using h1
   by_cases h2:k=2
   · have e:q28 k=3:=by simp[q28,h2]
     have E:=hdq e;have d2:(k==2)=true:=by simpa using h2
     clear e h1 h2;go_enter Tryz.func149,Tryz.ntmps149;go_wp2_with fail;go_ret;exact⟨by rw[E.out];rfl,rfl⟩
   · have e:q28 k=0:=by simp[q28,h1,h2]
     have E:=hdq e;have d2:(k==2)=false:=by simpa using h2
     clear e h1 h2;go_enter Tryz.func149,Tryz.ntmps149;go_wp2_with fail;go_ret;exact⟨by rw[E.out];rfl,rfl⟩
def Plus(S:Nat->Prop)(w w':World)(b:Nat):Prop:=S b\/w.heap.size<=b/\b < w'.heap.size
theorem InK.one{w:World}{S:Nat->Prop}{e:TypeId}{t:Tr}{v0 v1 v2:Value}{g:Nat}(h:InT w S t (.agg #[v0,v1,v2]))(hg:w.heap[g]? =some (.cells #[v0,v1,v2] e (0,0)))(hS:S g):InK w S (some ⟨g,0,none⟩) [t]:=by
 refine .inr ⟨g,0,rfl,hS, ?_⟩;unfold InL;refine⟨⟨v0,v1,v2,y10 hg 0,y10 hg 1,y10 hg 2,h⟩, ?_⟩;unfold InL
 trivial
theorem y19(w:World)(k:Int)(A:Option Addr)(len cap:Nat):Calls Tryz.prog 90 #[.int .i64 k,.slice A len cap] w fun e w'=> e= .returned (.agg #[.int .i64 k,.int .i64 0,.slice A len cap])/\Ext w w':=by
 go_enter Tryz.func90,Tryz.ntmps90;go_wp2_with fail;exact bodyPost_ret (v:= .agg #[.int .i64 k,.int .i64 0,.slice A len cap]) (by simp[results,Tryz.results90,go_sem]) rfl ⟨rfl,(xr w).alloc _⟩
theorem y17(w:World)(k n:Int):Calls Tryz.prog 96 #[.int .i64 k,.int .i64 n] w fun e w'=> e= .returned (.agg #[.int .i64 k,.int .i64 n,.slice none 0 0])/\Ext w w':=by
 go_enter Tryz.func96,Tryz.ntmps96;go_wp2_with fail;exact bodyPost_ret (v:= .agg #[.int .i64 k,.int .i64 n,.slice none 0 0]) (by simp[results,Tryz.results96,go_sem]) rfl ⟨rfl,(xr w).alloc _⟩
theorem j198:(Tryz.prog.info? 25).map (fun i=>(i.zero,i.size,i.bytes))=some (some (.agg #[.int .i64 0,.int .i64 0,.slice none 0 0]),3,40):=by kernel_rfl
theorem j160(w:World)(k:Int)(A:Option Addr)(cap:Nat)(ks:List Tr)(hA:A=none->cap=0)(S:Nat->Prop)(hS: ∀b,S b->b < w.heap.size)(hK:InK w S A ks)(hn:ks.length<=1099511627776):
 Calls Tryz.prog 94 #[.int .i64 k,.slice A ks.length cap] w fun e w'=> ∃u,e= .returned u/\InT w' (Plus S w w') (.mk k 0 ks) u/\Ext w w':=by
 obtain⟨i0,hi,hz0,hz1,hz2⟩:=info_parts j198;have hK':InK (w.alloc (.cells #[.int .i64 0,.int .i64 0,.slice none 0 0] 25)) S A ks:=InK.mono (fun _ h=> h) (fun b hb=> Below.heap_alloc w _ b (hS b hb)) hK;go_enter Tryz.func94,Tryz.ntmps94;go_wp2_with (at_builtin;refine y81 _ rfl (.tmp 6) (.tmp 7) 23 rfl 25 i0 _ Tryz.underlying23 hi hz0 hz1 hz2 rfl (W:=w.alloc (.cells #[.int .i64 0,.int .i64 0,.slice none 0 0] 25)) (v:= .slice (some ⟨w.heap.size+1,0,none⟩) 0 0) (A:=A) (cap:=cap) (ks:=ks) rfl ?ow ((xr _).alloc _) rfl hA ?hS hK' hn ?_)
 case ow=> simpa using World.ownsRow_lit (base:=w.heap.size+1) (e:=25) (size:=3) (w.alloc (.cells #[.int .i64 0,.int .i64 0,.slice none 0 0] 25)) #[] 0 (by simp) (Nat.zero_le _) rfl
 case hS=> intro b hb;have:=hS b hb;simp;omega
 intro B c' w2 hB hc1 hc2 hE _;have hb:=blk1 hE;obtain⟨r0,r1,r2,p0,p1,p2⟩:=own3 hb.1;have hEs:=hE.pre;have hlt:=hb.2;clear hi hz0 hz1 hz2 hK' hb;go_wp2_with fail;refine bodyPost_ret (v:= .agg #[.int .i64 k,.int .i64 0,.slice B ks.length c']) (by simp[results,Tryz.results94,go_sem,r0,r1,r2]) rfl ⟨_,rfl,InT.mk_iff.2 ⟨_,_,rfl,hc1,hc2,hB.mono ?_ ?_⟩, ?_⟩
 · intro b hb
   unfold Plus;rw[World.size_setCell,World.size_setCell,World.size_setCell];rcases hb with hb|hb
   · exact .inl hb
   · have:=hb.1
     exact .inr ⟨by omega,hb.2⟩
 · intro b hb
   have hne:b≠w.heap.size:=by
    rcases hb with hb|hb
    · have:=hS b hb
      omega
    · have:=hb.1
      omega
   rw[Below.heap_setCell _ _ _ _ hne,Below.heap_setCell _ _ _ _ hne,Below.heap_setCell _ _ _ _ hne]
 · exact((hEs.setCell (Nat.le_refl _) _).setCell (Nat.le_refl _) _).setCell (Nat.le_refl _) _
theorem Made.three{w w':World}{e:TypeId}{t:Tr}{u:Value}(h:Made w w' e t u): ∃k n A l c,u= .agg #[.int .i64 k,.int .i64 n,.slice A l c]:=by
 obtain⟨k,n,ks⟩:=t;obtain⟨A,cap,rfl,_⟩:=Made.mk_iff.1 h;exact⟨k,n,A,_,cap,rfl⟩
theorem Lies.three{w:World}{t:Tr}{u:Value}(h:Lies w t u): ∃k n A l c,u= .agg #[.int .i64 k,.int .i64 n,.slice A l c]:=by
 obtain⟨k,n,ks⟩:=t;obtain⟨A,cap,rfl,_⟩:=Lies.mk_iff.1 h;exact⟨k,n,A,_,cap,rfl⟩
theorem Only.below{L:List Nat}{a w w':World}{B:Nat}(h:Only L a w)(hb:Below B w w')(hB:a.heap.size<=B):Only L a w':=
 ⟨hb.os.trans h.os,hb.tape.trans h.tape,hb.output.trans h.output,Nat.le_trans h.size hb.size,fun i hi hn=>(hb.block i (by omega)).trans (h.block i hi hn)⟩
theorem Grow.step2{W wr w1 w w':World}{e:TypeId}{v v':Value}{ks:List Tr}{t:Tr}{v0 v1 v2:Value}{xs:List Value}{L:List Nat}
 (hL:OwnL wr e xs ks L) (hF:j45 W wr L) (hv: ∀g,v.ownBlock=some g-> ¬g∈L/\g < wr.heap.size/\W.heap.size<=g) (hx:xs.length=ks.length*3) (hW:W.heap.size<=wr.heap.size) (hs1:wr.heap.size<=w1.heap.size) (hA1: ∀b,W.heap.size<=b->b < wr.heap.size->w1.heap[b]? =wr.heap[b]?) (hM:Made wr w1 e t (.agg #[v0,v1,v2])) (hE2:Ext w1 w)
 (h2:w'.ownsRow W.heap.size e 3 v' (ks.length+1) (xs++ [v0,v1,v2])) (h3:w.grownBy w' v.ownBlock) (h4: ∀g,v'.ownBlock=some g->v.ownBlock=some g\/w.heap.size<=g):Grow W w' e v' (ks++ [t])/\Below W.heap.size w1 w'/\(∀b,wr.heap.size<=b->b < w1.heap.size->w'.heap[b]? =w1.heap[b]?):=by
 obtain⟨M,hM,hFM⟩:=hM;have s1:=hs1;have s2:=hE2.size;have keep: ∀b,b < w1.heap.size->(v.ownBlock≠some b)->w'.heap[b]? =w1.heap[b]? :=fun b hb hne=>(h3.block b (by omega) (fun h=> hne h.symm)).trans (hE2.heap b hb)
 refine⟨⟨_,L++M,by simpa using h2,OwnL.snoc (hM.mono fun b hb=> keep b (hFM.2 b hb).2 fun he=> ?_) [] hx (hL.mono fun b hb=>(keep b (by have:=(hF.2 b hb).2;omega) fun he=> ?_).trans (hA1 b (hF.2 b hb).1 (hF.2 b hb).2)), ?_,fun g hg hm=> ?_⟩, ?_⟩
 · have:=(hv b he).2.1
   have:=(hFM.2 b hb).1;omega
 · exact(hv b he).1 hb
 · have h5:=hF.append (d:=w1) hFM (Nat.le_refl _) hW hs1
   exact h5.mono (Nat.le_refl _) (by have:=h3.size;omega)
 · rcases h4 g hg with h|h
   · rcases List.mem_append.1 hm with hm|hm
     · exact(hv g h).1 hm
     · have:=(hv g h).2.1
       have:=(hFM.2 g hm).1;omega
   · rcases List.mem_append.1 hm with hm|hm
     · have:=(hF.2 g hm).2
       omega
     · have:=(hFM.2 g hm).2
       omega
 · refine⟨⟨h3.os.trans hE2.os,h3.tape.trans hE2.tape,h3.output.trans hE2.output,by have:=h3.size;omega,fun b hb=> ?_⟩,fun b h0 h1=> keep b h1 (fun he=> by have:=(hv b he).2.1;omega)⟩
   exact keep b (by omega) (fun he=> by have:=(hv b he).2.2;omega)
theorem j99{P:Program}(w:World){o:Oper}{a:Act}{K:Act->World->Prop}{Q:Exit->Act->World->Prop}(s x:Operand)(t:TypeId)
 (ho:o.op= .call {callee:= .builtin .append,args:=#[s,x],argTypes:=#[t,t]})
 (e:TypeId) (i:TypeInfo) (z:Value) (ht:P.underlying t=some (.slice e)) (hi:P.info? e=some i) (hz:i.zero=some z) (hsize:i.size=3) (hby:i.bytes=40) (hzs:z.cells.size=3)
 {W wr w1:World} {v:Value} {ks:List Tr} {tr:Tr} {v0 v1 v2:Value} {gx:Nat} (hs:a.eval s=v) (hG:Grow W wr e v ks) (hW:W.heap.size<=wr.heap.size) (hs1:wr.heap.size<=w1.heap.size) (hA1: ∀b,W.heap.size<=b->b < wr.heap.size->w1.heap[b]? =wr.heap[b]?) (hM:Made wr w1 e tr (.agg #[v0,v1,v2])) (hE2:Ext w1 w)
 (hx:a.eval x= .slice (some ⟨gx,0,none⟩) 1 1) (hgx:w.heap[gx]? =some (.cells #[v0,v1,v2] e (0,0))) (hn:ks.length < 1099511627776)
 (h: ∀v' w',Grow W w' e v' (ks++ [tr])->Below W.heap.size w1 w'->(∀b,wr.heap.size<=b->b < w1.heap.size->w'.heap[b]? =w1.heap[b]?)->K (a.put o.dst v') w'):o.wp P a w K Q:=by
 obtain⟨xs,L,h1,h2,h3,h4⟩:=hG;have s1:=hs1;have s2:=hE2.size;have hown:w.ownsRow W.heap.size e 3 v ks.length xs:=j28 h1 (fun g hg=>(hE2.heap g (by have:=(h1.lt g hg).2;omega)).trans (hA1 g (h1.lt g hg).1 (h1.lt g hg).2));obtain⟨v',w',hr,r1,r2,r3⟩:=q16 (P:=P) w W.heap.size t o.type e i z 3 40 ht hi hz hsize hby hzs (by decide) v ks.length xs hown ⟨gx,0,none⟩ 1 1 [v0,v1,v2] rfl (j59 hgx) (q87 hM) (by unfold maxLen;omega) (by omega) (by omega);obtain⟨g1,g2,g3⟩:=Grow.step2 h2 h3 (fun g hg=>⟨h4 g hg,(h1.lt g hg).2,(h1.lt g hg).1⟩) h1.1 hW hs1 hA1 hM hE2 r1 r2 r3;unfold Oper.wp execOp;simp only[ho,resolve,invoke,builtin,Sem.run_bind,Sem.run_pure,Result.andThen_ok,List.map_toArray,List.map_cons,List.map_nil,hs,hx,hr];exact h v' w' g1 g2 g3
theorem q42{P:Program}(w:World){ops:Array Oper}{o:Oper}{a:Act}{K:Act->World->Prop}{Q:Exit->Act->World->Prop}{E:Prop}(hgd:o.guard=none)(s x:Operand)(t:TypeId)
 (ho:o.op= .call {callee:= .builtin .append,args:=#[s,x],argTypes:=#[t,t]})
 (e:TypeId) (i:TypeInfo) (z:Value) (ht:P.underlying t=some (.slice e)) (hi:P.info? e=some i) (hz:i.zero=some z) (hsize:i.size=3) (hby:i.bytes=40) (hzs:z.cells.size=3)
 {W wr w1:World} {v:Value} {ks:List Tr} {tr:Tr} {v0 v1 v2:Value} {gx:Nat} (hs:a.eval s=v) (hG:Grow W wr e v ks) (hW:W.heap.size<=wr.heap.size) (hs1:wr.heap.size<=w1.heap.size) (hA1: ∀b,W.heap.size<=b->b < wr.heap.size->w1.heap[b]? =wr.heap[b]?) (hM:Made wr w1 e tr (.agg #[v0,v1,v2])) (hE2:Ext w1 w)
 (hx:a.eval x= .slice (some ⟨gx,0,none⟩) 1 1) (hgx:w.heap[gx]? =some (.cells #[v0,v1,v2] e (0,0))) (hn:ks.length < 1099511627776)
 (h: ∀v' w',Grow W w' e v' (ks++ [tr])->Below W.heap.size w1 w'->(∀b,wr.heap.size<=b->b < w1.heap.size->w'.heap[b]? =w1.heap[b]?)->K (a.put o.dst v') w'):
 if Region.wanted o (yielded ops a.tmps)=true then Oper.wp P o a w K Q else E:=by
 have hw:Region.wanted o (yielded ops a.tmps)=true:=by simp[Region.wanted,hgd]
 rw[if_pos hw];exact j99 w s x t ho e i z ht hi hz hsize hby hzs hs hG hW hs1 hA1 hM hE2 hx hgx hn h
mutual
theorem InT.bound{w:World}{S:Nat->Prop}: ∀{t:Tr} {v:Value},InT w S t v->InT w (fun b=> S b/\b < w.heap.size) t v
 | .mk k n ks,v,h=> by
  obtain⟨A,cap,rfl,h1,h2,h3⟩:=InT.mk_iff.1 h;refine InT.mk_iff.2 ⟨A,cap,rfl,h1,h2, ?_⟩;cases ks with
  |nil=> exact .inl rfl
  |cons t ts=>
   rcases h3 with h3|⟨b,o,rfl,hb,hl⟩
   · cases h3
   · refine .inr ⟨b,o,rfl,⟨hb, ?_⟩,InL.bound hl⟩
     unfold InL at hl;obtain⟨⟨v0,v1,v2,h0,-⟩,-⟩:=hl;exact World.block_lt_of_cell? _ _ h0
theorem InL.bound{w:World}{S:Nat->Prop}{b:Nat}: ∀{o:Nat} {ks:List Tr},InL w S b o ks->InL w (fun b=> S b/\b < w.heap.size) b o ks
 |_, [],_=> by unfold InL;trivial
 |o,t::ts,h=> by
  unfold InL at h⊢;obtain⟨⟨v0,v1,v2,h0,h1,h2,ht⟩,hts⟩:=h;exact⟨⟨v0,v1,v2,h0,h1,h2,InT.bound ht⟩,InL.bound hts⟩
end
theorem InT.later{w w':World}{S:Nat->Prop}{t:Tr}{v:Value}(h:InT w S t v)(he:Ext w w'):InT w' S t v:=
 InT.mono (fun _ hb=> hb.1) (fun b hb=> he.heap b hb.2) h.bound
def j171(t:Tr):Prop:= ∀(w:World) (B g:Nat) (v:Value) (deep c:Int),InT w (fun b=> b < B) t v->B<=g->w.heap[g]? =some (.cells #[.int .i64 c] 3 (0,0))->0<=c->c<=400->0<=deep->deep<=40->
 Calls Tryz.prog 98 #[v,.int .i64 deep,.pointer (some ⟨g,0,none⟩)] w fun e w'=> e= .returned (.bool (j33 sigT t deep c).1)/\w'.heap[g]? =some (.cells #[.int .i64 (j33 sigT t deep c).2] 3 (0,0))/\Below B w w'
theorem j126: ∀t:Tr,j171 t:=Tr.ind fun k n ks hk=> by
 intro w B g v deep c hin hBg hblk hc0 hc1 hd0 hd1;obtain⟨A,cap,rfl,hl,hc,h⟩:=InT.mk_iff.1 hin;clear hin;have hc':=hc;unfold maxLen at hc';have hgs:=q10 hblk;have q0:w.cell? ⟨g,0,none⟩=some (.int .i64 c):=y10 hblk 0;have q1:=q12 hblk 0;have e:j33 sigT (.mk k n ks) deep c=if 400 < c+1 then(false,c+1) else if 30 < deep then(false,c+1) else if opsT k=(ks.length:Int) then(if inR n 0 (q28 k)=true then j32 sigT ks (deep+1) (c+1) else(false,c+1)) else(false,c+1):=by
  unfold j33;rfl
 have E:=hdq e;have HB:=hdq hblk;have hW: ∀W,W=(w.setCell ⟨g,0,none⟩ (.int .i64 (c+1))).alloc (.cells #[.int .i64 k,.int .i64 n,.slice A ks.length cap] 25)->W.heap[g]? =some (.cells #[.int .i64 (c+1)] 3 (0,0))/\W.heap[w.heap.size]? =some (.cells #[.int .i64 k,.int .i64 n,.slice A ks.length cap] 25 (0,0))/\Below B w W/\w.heap.size < W.heap.size:=by
  rintro W rfl;have e0:=heap_alloc_new (w.setCell ⟨g,0,none⟩ (.int .i64 (c+1))) (.cells #[.int .i64 k,.int .i64 n,.slice A ks.length cap] 25);rw[World.size_setCell] at e0;exact⟨j182 (q11 HB.out 0 _) _,e0,((Below.refl B w).setCell hBg _).alloc (by simp;omega) _,by simp⟩
 have HW:=hdq hW;clear hW e;by_cases a1:400 < c+1
 · rw[if_pos a1] at E
   have d1:decide (400 < c+1)=true:=decide_eq_true a1;go_enter Tryz.func98,Tryz.ntmps98;go_wp2_with fail;have hb:=HW.out _ rfl;generalize (w.setCell _ _).alloc _=W at hb;obtain⟨b1,b2,b3,b4⟩:=hb;obtain⟨y0,y1,y2⟩:=j23.own3 b2;have y3: ∀y:j23 W,y.world.cell? ⟨g,0,none⟩=some (.int .i64 (c+1)):=fun y=> j23.cell (y10 b1 0) y
   have B1:=hdq b1;have B2:=hdq b2;clear b2 b1 q0 q1 hblk;refine q15 (by kernel_rfl) (by kernel_rfl) ?_
   repeat (go_big_quiet_step (first|(go_at_call 148;exact j58 (j72 _ _)) |(go_at_call 67;exact j13 (q22 _ _ _ _)) |(go_at_call 149;exact j13 (j55 _ _))))
   refine wpQuiet_nil ?_;intro w3 hw';obtain⟨⟨_,h3⟩,rfl⟩:=hw';clear y0 y1 y2 y3;go_wp2_with fail;go_ret;exact⟨by rw[E.out];rfl,by rw[E.out];exact h3.blk B1.out,b3.trans (h3.mono (by omega))⟩
 rw[if_neg a1] at E;have d1:decide (400 < c+1)=false:=decide_eq_false a1;by_cases a2:30 < deep
 · rw[if_pos a2] at E
   have d2:decide (30 < deep)=true:=decide_eq_true a2;go_enter Tryz.func98,Tryz.ntmps98;go_wp2_with fail;have hb:=HW.out _ rfl;generalize (w.setCell _ _).alloc _=W at hb;obtain⟨b1,b2,b3,b4⟩:=hb;obtain⟨y0,y1,y2⟩:=j23.own3 b2;have y3: ∀y:j23 W,y.world.cell? ⟨g,0,none⟩=some (.int .i64 (c+1)):=fun y=> j23.cell (y10 b1 0) y
   have B1:=hdq b1;have B2:=hdq b2;clear b2 b1 q0 q1 hblk;refine q15 (by kernel_rfl) (by kernel_rfl) ?_
   repeat (go_big_quiet_step (first|(go_at_call 148;exact j58 (j72 _ _)) |(go_at_call 67;exact j13 (q22 _ _ _ _)) |(go_at_call 149;exact j13 (j55 _ _))))
   refine wpQuiet_nil ?_;intro w3 hw';obtain⟨⟨_,h3⟩,rfl⟩:=hw';clear y0 y1 y2 y3;go_wp2_with fail;go_ret;exact⟨by rw[E.out];rfl,by rw[E.out];exact h3.blk B1.out,b3.trans (h3.mono (by omega))⟩
 rw[if_neg a2] at E;have d2:decide (30 < deep)=false:=decide_eq_false a2;by_cases a3:opsT k=(ks.length:Int)
 · rw[if_pos a3] at E
   have d3:(opsT k !=(ks.length:Int))=false:=by rw[a3];simp
   clear a3;obtain⟨z,hz⟩: ∃z,inR n 0 (q28 k)=z:=⟨_,rfl⟩;cases z with
   |false=>
    rw[hz,if_neg (by decide)] at E;go_enter Tryz.func98,Tryz.ntmps98;go_wp2_with fail;have hb:=HW.out _ rfl;generalize (w.setCell _ _).alloc _=W at hb;obtain⟨b1,b2,b3,b4⟩:=hb;obtain⟨y0,y1,y2⟩:=j23.own3 b2;have y3: ∀y:j23 W,y.world.cell? ⟨g,0,none⟩=some (.int .i64 (c+1)):=fun y=> j23.cell (y10 b1 0) y
    have B1:=hdq b1;have B2:=hdq b2;clear b2 b1 q0 q1 hblk;refine q15 (by kernel_rfl) (by kernel_rfl) ?_
    repeat (go_big_quiet_step (first|(go_at_call 148;exact j58 (j72 _ _)) |(go_at_call 67;exact j13 (q22 _ _ _ _)) |(go_at_call 149;exact j13 (j55 _ _))))
    refine wpQuiet_nil ?_;intro w3 hw';obtain⟨⟨_,h3⟩,rfl⟩:=hw';clear y0 y1 y2 y3;go_wp2_with fail;go_ret;exact⟨by rw[E.out];rfl,by rw[E.out];exact h3.blk B1.out,b3.trans (h3.mono (by omega))⟩
   |true=>
    rw[hz,if_pos rfl] at E;go_enter Tryz.func98,Tryz.ntmps98;go_wp2_with fail;have hb:=HW.out _ rfl;generalize (w.setCell _ _).alloc _=W at hb;obtain⟨b1,b2,b3,b4⟩:=hb;obtain⟨y0,y1,y2⟩:=j23.own3 b2;have y3: ∀y:j23 W,y.world.cell? ⟨g,0,none⟩=some (.int .i64 (c+1)):=fun y=> j23.cell (y10 b1 0) y
    have B1:=hdq b1;have B2:=hdq b2;clear b2 b1 q0 q1 hblk;refine q15 (by kernel_rfl) (by kernel_rfl) ?_
    repeat (go_big_quiet_step (first|(go_at_call 148;exact j58 (j72 _ _)) |(go_at_call 67;exact j13 (q22 _ _ _ _)) |(go_at_call 149;exact j13 (j55 _ _))))
    refine wpQuiet_nil ?_;intro w3 hw';obtain⟨⟨_,h3⟩,rfl⟩:=hw';clear y0 y1 y2 y3;clear hz;obtain⟨z0,z1,z2,-,-,-⟩:=own3 (h3.blk B2.out);have hg3:=h3.blk B1.out;have hB3:Below B w w3:=b3.trans (h3.mono (by omega));have B4:=hdq hg3;clear hg3;go_wp2_with fail;clear z0 z1 z2
    go_loopw [43] (fun i wr=> ∃(j:Nat) (q:Int),j<=ks.length/\i= .int .i64 j/\wr.heap[g]? =some (.cells #[.int .i64 q] 3 (0,0))/\0<=q/\q<=400/\Below B w wr/\j32 sigT ks (deep+1) (c+1)=j32 sigT (ks.drop j) (deep+1) q) (fun i _=> ks.length -(intOf i).toNat)
    case atStart=> exact⟨0,c+1,Nat.zero_le _,rfl,B4.out,by omega,by omega,hB3,rfl⟩
    case round=>
     obtain⟨j,q,hj,rfl,hblk,hq0,hq1,hbel,heq⟩:=hrel;have HE:=hdq heq;clear heq;by_cases hlt:j < ks.length
     · obtain⟨b,o,k2,n2,A2,cap2,kids,rfl,HK,c0,c1,c2,hkl,hkc,hK,hin,hmem,hSb⟩:=h.get (fun x hx=> hbel.block x hx) hlt
       have hks:=List.drop_eq_getElem_cons hlt;rw[HK.out] at hks;have hst:j32 sigT (ks.drop j) (deep+1) q=if(j33 sigT (.mk k2 n2 kids) (deep+1) q).1=true then j32 sigT (ks.drop (j+1)) (deep+1) (j33 sigT (.mk k2 n2 kids) (deep+1) q).2 else(false,(j33 sigT (.mk k2 n2 kids) (deep+1) q).2):=by rw[hks];conv=> lhs;unfold j32
       have hsp:=j83 sigT (.mk k2 n2 kids) (deep+1) q hq0 hq1;have HB2:=hdq hblk;have hgwr:=q10 hblk;clear hblk hks;go_wp2_with fail;have hE1:=(xr wr).alloc (.cells #[.int .i64 k2,.int .i64 n2,.slice A2 kids.length cap2] 25);have hbw:B<=wr.heap.size:=by omega
       refine(hk _ hmem _ B g _ (deep+1) q (hin.mono (fun _ h=> h) (fun x hx=> hE1.heap x (by omega))) hBg (hE1.blk HB2.out) hq0 hq1 (by omega) (by omega)).mono ?_;rintro e w4 ⟨rfl,h4,h5⟩;have hbel4:Below B w w4:=hbel.trans ((Below.mono hE1 hbw).trans h5);generalize j33 sigT (.mk k2 n2 kids) (deep+1) q=r at hst hsp h4;obtain⟨r1,r2⟩:=r
       dsimp only at hst hsp h4
       cases r1 with
       |false=>
        rw[if_neg (by decide)] at hst;have HT:=hdq hst;have H4:=hdq h4;clear hst h4 hsp;go_wp2_with fail;go_ret;exact⟨by rw[E.out,HE.out,HT.out];rfl,by rw[E.out,HE.out,HT.out];exact H4.out,hbel4⟩
       |true=>
        rw[if_pos rfl] at hst;have HT:=hdq hst;have H4:=hdq h4;have hr2:=hsp.2.2.2.2 rfl;have hr3:=hsp.2.2.1;clear hst h4 hsp;go_wp2_with fail
        go_roundw
        case rel=> exact⟨j+1,r2,by omega,by go_num,H4.out,by omega,hr2,hbel4,by rw[HE.out,HT.out]⟩
        case measure=> simp[intOf];omega
     · have HB2:=hdq hblk
       clear hblk;go_wp2_with fail;go_ret;have hjk:ks.drop j= []:=List.drop_of_length_le (by omega);exact⟨by rw[E.out,HE.out,hjk];rfl,by rw[E.out,HE.out,hjk];exact HB2.out,hbel⟩
 · rw[if_neg a3] at E
   have d3:(opsT k !=(ks.length:Int))=true:=by rw[bne_iff_ne];exact a3
   clear a3;go_enter Tryz.func98,Tryz.ntmps98;go_wp2_with fail;have hb:=HW.out _ rfl;generalize (w.setCell _ _).alloc _=W at hb;obtain⟨b1,b2,b3,b4⟩:=hb;obtain⟨y0,y1,y2⟩:=j23.own3 b2;have y3: ∀y:j23 W,y.world.cell? ⟨g,0,none⟩=some (.int .i64 (c+1)):=fun y=> j23.cell (y10 b1 0) y
   have B1:=hdq b1;have B2:=hdq b2;clear b2 b1 q0 q1 hblk;refine q15 (by kernel_rfl) (by kernel_rfl) ?_
   repeat (go_big_quiet_step (first|(go_at_call 148;exact j58 (j72 _ _)) |(go_at_call 67;exact j13 (q22 _ _ _ _)) |(go_at_call 149;exact j13 (j55 _ _))))
   refine wpQuiet_nil ?_;intro w3 hw';obtain⟨⟨_,h3⟩,rfl⟩:=hw';clear y0 y1 y2 y3;go_wp2_with fail;go_ret;exact⟨by rw[E.out];rfl,by rw[E.out];exact h3.blk B1.out,b3.trans (h3.mono (by omega))⟩
def RowL(w:World)(S:Nat->Prop):List Value->List Tr->Prop
 |_, []=> True
 |xs,t::ts=> ∃v0 v1 v2 rest,xs=v0::v1::v2::rest/\InT w S t (.agg #[v0,v1,v2])/\RowL w S rest ts
theorem RowL.cons_iff{w:World}{S:Nat->Prop}{xs:List Value}{t:Tr}{ts:List Tr}:RowL w S xs (t::ts)↔ ∃v0 v1 v2 rest,xs=v0::v1::v2::rest/\InT w S t (.agg #[v0,v1,v2])/\RowL w S rest ts:=by
 conv=> lhs;unfold RowL
theorem RowL.nil{w:World}{S:Nat->Prop}{xs:List Value}:RowL w S xs []:=by unfold RowL;trivial
theorem RowL.mono{w w':World}{S S':Nat->Prop}(hS: ∀b,S b->S' b)(hw: ∀b,S b->w'.heap[b]? =w.heap[b]?): ∀{xs:List Value} {ks:List Tr},RowL w S xs ks->RowL w' S' xs ks
 |_, [],_=> RowL.nil
 |xs,t::ts,h=> by
  obtain⟨v0,v1,v2,rest,rfl,h1,h2⟩:=RowL.cons_iff.1 h;exact RowL.cons_iff.2 ⟨v0,v1,v2,rest,rfl,h1.mono hS hw,RowL.mono hS hw h2⟩
theorem RowL.inL{w:World}{S:Nat->Prop}{b:Nat}{cs:Array Value}{e:TypeId}(hb:w.heap[b]? =some (.cells cs e (0,0))): ∀{xs pre:List Value} {ks:List Tr},RowL w S xs ks->cs.toList=pre++xs->InL w S b pre.length ks
 |_,_, [],_,_=> by unfold InL;trivial
 |xs,pre,t::ts,h,he=> by
  obtain⟨v0,v1,v2,rest,rfl,h1,h2⟩:=RowL.cons_iff.1 h;unfold InL;have hc: ∀i,w.cell? ⟨b,i,none⟩=cs.toList[i]? :=fun i=> by rw[y10 hb];simp
  refine⟨⟨v0,v1,v2, ?_, ?_, ?_,h1⟩, ?_⟩
  · rw[hc,he,List.getElem?_append_right (Nat.le_refl _)];simp
  · rw[hc,he,List.getElem?_append_right (by omega)];simp
  · rw[hc,he,List.getElem?_append_right (by omega)];simp
  · have:=RowL.inL hb (pre:=pre++ [v0,v1,v2]) h2 (by simp[he])
    simpa using this
theorem InL.rowL{w:World}{S:Nat->Prop}{b:Nat}: ∀{o:Nat} {ks:List Tr},InL w S b o ks-> ∃xs:List Value,xs.length=ks.length*3/\(∀j u,xs[j]? =some u->w.cell? ⟨b,o+j,none⟩=some u)/\(∀u∈xs,u.oneCell'=true)/\RowL w S xs ks
 |o, [],_=>⟨[],rfl,(fun j u h=> by simp at h),(fun u h=> by simp at h),RowL.nil⟩
 |o,t::ts,h=> by
  unfold InL at h;obtain⟨⟨v0,v1,v2,c0,c1,c2,ht⟩,hts⟩:=h;obtain⟨xs,n1,n2,n3,n4⟩:=InL.rowL hts;refine⟨v0::v1::v2::xs,by simp[n1];omega,fun j u hu=> ?_,fun u hu=> ?_,RowL.cons_iff.2 ⟨v0,v1,v2,xs,rfl,ht,n4⟩⟩
  · match j,hu with
    |0,hu=> simpa using(by simpa using hu:v0=u)▸c0
    |1,hu=> simpa using(by simpa using hu:v1=u)▸c1
    |2,hu=> simpa using(by simpa using hu:v2=u)▸c2
    |j+3,hu=>
     have:=n2 j u (by simpa using hu)
     rwa [show o+3+j=o+(j+3) by omega] at this
  · obtain⟨k,n,kids⟩:=t
    obtain⟨A,cap,hv,_⟩:=InT.mk_iff.1 ht;simp only[Value.agg.injEq,Array.mk.injEq,List.cons.injEq,and_true] at hv;obtain⟨rfl,rfl,rfl⟩:=hv;simp only[List.mem_cons] at hu;rcases hu with rfl|rfl|rfl|hu
    · rfl
    · rfl
    · rfl
    · exact n3 u hu
theorem RowL.snoc{w:World}{S:Nat->Prop}{t:Tr}{v0 v1 v2:Value}(ht:InT w S t (.agg #[v0,v1,v2]))(tail:List Value): ∀{xs:List Value} {ks:List Tr},xs.length=ks.length*3->RowL w S xs ks->RowL w S (xs++v0::v1::v2::tail) (ks++ [t])
 |xs, [],hx,h=> by
  have hx0:xs= []:=List.eq_nil_of_length_eq_zero (by simpa using hx);subst hx0;exact RowL.cons_iff.2 ⟨v0,v1,v2,tail,rfl,ht,RowL.nil⟩
 |xs,x::ks,hx,h=> by
  obtain⟨u0,u1,u2,rest,rfl,h1,h2⟩:=RowL.cons_iff.1 h;exact RowL.cons_iff.2 ⟨u0,u1,u2,_,rfl,h1,RowL.snoc ht tail (by simp only[List.length_cons] at hx;omega) h2⟩
theorem RowL.tail{w:World}{S:Nat->Prop}(tail:List Value): ∀{xs:List Value} {ks:List Tr},RowL w S xs ks->RowL w S (xs++tail) ks
 |xs, [],h=> RowL.nil
 |xs,x::ks,h=> by
  obtain⟨u0,u1,u2,rest,rfl,h1,h2⟩:=RowL.cons_iff.1 h;exact RowL.cons_iff.2 ⟨u0,u1,u2,_,rfl,h1,RowL.tail tail h2⟩
theorem RowL.set{w:World}{S:Nat->Prop}{t:Tr}{v0 v1 v2:Value}(ht:InT w S t (.agg #[v0,v1,v2])): ∀{xs:List Value} {ks:List Tr} (i:Nat),RowL w S xs ks->RowL w S (((xs.set (i*3) v0).set (i*3+1) v1).set (i*3+2) v2) (ks.set i t)
 |xs, [],i,h=> by simpa using RowL.nil
 |xs,x::ks,0,h=> by
  obtain⟨u0,u1,u2,rest,rfl,h1,h2⟩:=RowL.cons_iff.1 h;exact RowL.cons_iff.2 ⟨v0,v1,v2,rest,by simp,ht,h2⟩
 |xs,x::ks,i+1,h=> by
  obtain⟨u0,u1,u2,rest,rfl,h1,h2⟩:=RowL.cons_iff.1 h;refine RowL.cons_iff.2 ⟨u0,u1,u2,_, ?_,h1,RowL.set ht i h2⟩;rw[show(i+1)*3=i*3+1+1+1 by omega,show i*3+1+1+1+1=i*3+1+1+1+1 from rfl,show i*3+1+1+1+2=i*3+2+1+1+1 by omega];simp
def j20(X:Nat->Prop)(W w:World)(e:TypeId)(v:Value)(ks:List Tr):Prop:=
 ∃xs,w.ownsRow W.heap.size e 3 v ks.length xs/\RowL w (fun b=> b < w.heap.size/\v.ownBlock≠some b/\ ¬X b) xs ks
theorem j20.nil(X:Nat->Prop)(W w:World)(e:TypeId):j20 X W w e (.slice none 0 0) []:=⟨[],World.ownsRow_nil _ _ _ _,RowL.nil⟩
theorem j20.lit{X:Nat->Prop}{W w:World}{e:TypeId}{g:Nat}(hg:w.heap[g]? =some (.cells #[] e (0,0)))(hW:W.heap.size<=g):j20 X W w e (.slice (some ⟨g,0,none⟩) 0 0) []:=
 ⟨[],⟨rfl,.inr ⟨g,0,#[],rfl,hW,hg,Nat.le_refl _,Nat.zero_le _,rfl,rfl⟩⟩,RowL.nil⟩
theorem j20.only{X:Nat->Prop}{W w w':World}{e:TypeId}{v:Value}{ks:List Tr}{L:List Nat}(h:j20 X W w e v ks)(ho:Only L w w')(hX: ∀b,b∈L->X b)(hL: ∀b,X b->b < W.heap.size):j20 X W w' e v ks:=by
 obtain⟨xs,h1,h2⟩:=h;refine⟨xs,j28 h1 (fun g hg=> ho.block g (h1.lt g hg).2 (fun hm=> by have:=hL g (hX g hm);have:=(h1.lt g hg).1;omega)),h2.mono (fun b hb=>⟨Nat.lt_of_lt_of_le hb.1 ho.size,hb.2.1,hb.2.2⟩) (fun b hb=> ho.block b hb.1 (fun hm=> hb.2.2 (hX b hm)))⟩
theorem j20.ext{X:Nat->Prop}{W w w':World}{e:TypeId}{v:Value}{ks:List Tr}(h:j20 X W w e v ks)(he:Ext w w'):j20 X W w' e v ks:=by
 obtain⟨xs,h1,h2⟩:=h;exact⟨xs,j28 h1 (fun g hg=> he.heap g (h1.lt g hg).2),h2.mono (fun b hb=>⟨Nat.lt_of_lt_of_le hb.1 he.size,hb.2.1,hb.2.2⟩) (fun b hb=> he.heap b hb.1)⟩
theorem j20.lies{X:Nat->Prop}{W w:World}{e:TypeId}{v:Value}{ks:List Tr}(h:j20 X W w e v ks)(hL: ∀b,X b->b < W.heap.size): ∃A cap,v= .slice A ks.length cap/\ks.length<=cap/\cap<=maxLen/\InK w (fun b=> b < w.heap.size/\ ¬X b) A ks/\(ks= []\/ ∃g,A=some ⟨g,0,none⟩/\W.heap.size<=g):=by
 obtain⟨xs,h1,h2⟩:=h;rcases h1.2 with⟨rfl,h0⟩ |⟨g,cap,cur,rfl,hb,hg,hnc,hcm,hcs,ht⟩
 · have:ks= []:=List.eq_nil_of_length_eq_zero h0
   subst this;exact⟨none,0,rfl,Nat.le_refl _,Nat.zero_le _,.inl rfl,.inl rfl⟩
 · refine⟨_,cap,rfl,hnc,hcm,.inr ⟨g,0,rfl,⟨q10 hg,fun hm=> by have:=hL g hm;omega⟩, ?_⟩,.inr ⟨g,rfl,hb⟩⟩
   have h3:=RowL.tail (cur.toList.drop (ks.length*3)) (h2.mono (S':=fun b=> b < w.heap.size/\ ¬X b) (fun b hb=>⟨hb.1,hb.2.2⟩) (fun _ _=> rfl));rw[<-ht,List.take_append_drop] at h3;exact RowL.inL hg (pre:= []) h3 (by simp)
theorem y46{w:World}{S:Nat->Prop}{t:Tr}{v0 v1 v2:Value}(h:InT w S t (.agg #[v0,v1,v2])): ∀u∈ [v0,v1,v2],u.oneCell'=true:=by
 obtain⟨k,n,ks⟩:=t;obtain⟨A,cap,hv,_⟩:=InT.mk_iff.1 h;simp only[Value.agg.injEq,Array.mk.injEq,List.cons.injEq,and_true] at hv;obtain⟨rfl,rfl,rfl⟩:=hv;intro u hu;simp only[List.mem_cons,List.not_mem_nil,or_false] at hu;rcases hu with rfl|rfl|rfl <;> rfl
theorem q30{P:Program}(w:World){o:Oper}{a:Act}{K:Act->World->Prop}{Q:Exit->Act->World->Prop}(s x:Operand)(t:TypeId)
 (ho:o.op= .call {callee:= .builtin .append,args:=#[s,x],argTypes:=#[t,t]})
 (e:TypeId) (i:TypeInfo) (z:Value) (ht:P.underlying t=some (.slice e)) (hi:P.info? e=some i) (hz:i.zero=some z) (hsize:i.size=3) (hby:i.bytes=40) (hzs:z.cells.size=3)
 {X:Nat->Prop} {W:World} {v:Value} {ks:List Tr} {tr:Tr} {v0 v1 v2:Value} {gx:Nat} (hs:a.eval s=v) (hG:j20 X W w e v ks) (hW:W.heap.size<=w.heap.size)
 (hT:InT w (fun b=> b < w.heap.size/\v.ownBlock≠some b/\ ¬X b) tr (.agg #[v0,v1,v2]))
 (hx:a.eval x= .slice (some ⟨gx,0,none⟩) 1 1) (hgx:w.heap[gx]? =some (.cells #[v0,v1,v2] e (0,0))) (hn:ks.length < 1099511627776)
 (h: ∀v' w',j20 X W w' e v' (ks++ [tr])->Below W.heap.size w w'->K (a.put o.dst v') w') (hL: ∀b,X b->b < W.heap.size):o.wp P a w K Q:=by
 obtain⟨xs,h1,h2⟩:=hG;obtain⟨v',w',hr,r1,r2,r3⟩:=q16 (P:=P) w W.heap.size t o.type e i z 3 40 ht hi hz hsize hby hzs (by decide) v ks.length xs h1 ⟨gx,0,none⟩ 1 1 [v0,v1,v2] rfl (j59 hgx) (y46 hT) (by unfold maxLen;omega) (by omega) hW;have hB:Below W.heap.size w w':=⟨r2.os,r2.tape,r2.output,r2.size,fun b hb=> r2.block b (by omega) (fun he=> by have:=(h1.lt b he.symm).1;omega)⟩;have hS: ∀b,b < w.heap.size/\v.ownBlock≠some b/\ ¬X b->b < w'.heap.size/\v'.ownBlock≠some b/\ ¬X b:=fun b hb=> by
  refine⟨Nat.lt_of_lt_of_le hb.1 r2.size,fun he=> ?_,hb.2.2⟩;rcases r3 b he with h4|h4
  · exact hb.2.1 h4
  · omega
 have hw: ∀b,b < w.heap.size/\v.ownBlock≠some b/\ ¬X b->w'.heap[b]? =w.heap[b]? :=fun b hb=> r2.block b hb.1 (fun he=> hb.2.1 he.symm)
 have hG':j20 X W w' e v' (ks++ [tr]):=⟨_,by simpa using r1,RowL.snoc (hT.mono hS hw) [] h1.1 (h2.mono hS hw)⟩;unfold Oper.wp execOp;simp only[ho,resolve,invoke,builtin,Sem.run_bind,Sem.run_pure,Result.andThen_ok,List.map_toArray,List.map_cons,List.map_nil,hs,hx,hr];exact h v' w' hG' hB
theorem q37{P:Program}(w:World){ops:Array Oper}{rest:List Oper}{o:Oper}{a:Act}{Q:Exit->Act->World->Prop}(hgd:o.guard=none)(s x:Operand)(t:TypeId)
 (ho:o.op= .call {callee:= .builtin .append,args:=#[s,x],argTypes:=#[t,t]})
 (e:TypeId) (i:TypeInfo) (z:Value) (ht:P.underlying t=some (.slice e)) (hi:P.info? e=some i) (hz:i.zero=some z) (hsize:i.size=3) (hby:i.bytes=40) (hzs:z.cells.size=3)
 {X:Nat->Prop} {W:World} {v:Value} {ks:List Tr} {tr:Tr} {v0 v1 v2:Value} {gx:Nat} (hs:a.eval s=v) (hG:j20 X W w e v ks) (hW:W.heap.size<=w.heap.size)
 (hT:InT w (fun b=> b < w.heap.size/\v.ownBlock≠some b/\ ¬X b) tr (.agg #[v0,v1,v2]))
 (hx:a.eval x= .slice (some ⟨gx,0,none⟩) 1 1) (hgx:w.heap[gx]? =some (.cells #[v0,v1,v2] e (0,0))) (hn:ks.length < 1099511627776)
 (h: ∀v' w',j20 X W w' e v' (ks++ [tr])->Below W.heap.size w w'->wpList P ops Q rest (a.put o.dst v') w') (hL: ∀b,X b->b < W.heap.size):wpList P ops Q (o::rest) a w:=
 wpList_plain hgd fun K hK=> q30 w s x t ho e i z ht hi hz hsize hby hzs hs hG hW hT hx hgx hn (fun v' w' h1 h2=> hK _ _ (h v' w' h1 h2)) hL
theorem y27{P:Program}(w:World){ops:Array Oper}{o:Oper}{a:Act}{K:Act->World->Prop}{Q:Exit->Act->World->Prop}{E:Prop}(hgd:o.guard=none)(s x:Operand)(t:TypeId)
 (ho:o.op= .call {callee:= .builtin .append,args:=#[s,x],argTypes:=#[t,t]})
 (e:TypeId) (i:TypeInfo) (z:Value) (ht:P.underlying t=some (.slice e)) (hi:P.info? e=some i) (hz:i.zero=some z) (hsize:i.size=3) (hby:i.bytes=40) (hzs:z.cells.size=3)
 {X:Nat->Prop} {W:World} {v:Value} {ks:List Tr} {tr:Tr} {v0 v1 v2:Value} {gx:Nat} (hs:a.eval s=v) (hG:j20 X W w e v ks) (hW:W.heap.size<=w.heap.size)
 (hT:InT w (fun b=> b < w.heap.size/\v.ownBlock≠some b/\ ¬X b) tr (.agg #[v0,v1,v2]))
 (hx:a.eval x= .slice (some ⟨gx,0,none⟩) 1 1) (hgx:w.heap[gx]? =some (.cells #[v0,v1,v2] e (0,0))) (hn:ks.length < 1099511627776)
 (h: ∀v' w',j20 X W w' e v' (ks++ [tr])->Below W.heap.size w w'->K (a.put o.dst v') w') (hL: ∀b,X b->b < W.heap.size):
 if Region.wanted o (yielded ops a.tmps)=true then Oper.wp P o a w K Q else E:=by
 have hw:Region.wanted o (yielded ops a.tmps)=true:=by simp[Region.wanted,hgd]
 rw[if_pos hw];exact q30 w s x t ho e i z ht hi hz hsize hby hzs hs hG hW hT hx hgx hn h hL
end Go.Proofs.YtdkamgafpphdjaaGreat
