/-
  Lemmas towards the law, 26: Line, Mutate, Clone.
-/
import Derived.Test.YtdkamgafpphdjaaGreatUAX
import Derived.Test.YtdkamgafpphdjaaGreatUAY
set_option maxHeartbeats 4000000
set_option maxRecDepth 100000
namespace Go.Proofs.YtdkamgafpphdjaaGreat
open Go.RowKit
set_option linter.unusedVariables false
def j85(l:List UInt8):Option (Tr×Tr):=match prs 30 l 0 with
 |none=> none
 |some (t,a)=> if l[a]? =some 61 then(match prs 30 l (a+1) with
  |none=> none
  |some (b,e)=> if e=l.length then some (t,b) else none) else none
theorem j165{l:List UInt8}(h:prs 30 l 0=none):j85 l=none:=by unfold j85;rw[h]
theorem q148{l:List UInt8}{t:Tr}{a:Nat}(h:prs 30 l 0=some (t,a))(h1:l[a]? ≠some 61):j85 l=none:=by unfold j85;rw[h];simp only;rw[if_neg h1]
theorem j167{l:List UInt8}{t:Tr}{a:Nat}(h:prs 30 l 0=some (t,a))(h1:l[a]? =some 61)(h2:prs 30 l (a+1)=none):j85 l=none:=by unfold j85;rw[h];simp only;rw[if_pos h1,h2]
theorem q181{l:List UInt8}{t b:Tr}{a e:Nat}(h:prs 30 l 0=some (t,a))(h1:l[a]? =some 61)(h2:prs 30 l (a+1)=some (b,e)):j85 l=if e=l.length then some (t,b) else none:=by unfold j85;rw[h];simp only;rw[if_pos h1,h2]
def LineQ(w:World)(o:Option (Tr×Tr))(e:Ending)(w':World):Prop:=
 ∃(k1 n1 k2 n2:Int) (A1 A2:Option Addr) (l1 c1 l2 c2:Nat),e= .returned (.tuple #[.agg #[.int .i64 k1,.int .i64 n1,.slice A1 l1 c1,.int .i64 k2,.int .i64 n2,.slice A2 l2 c2],.bool o.isSome])/\
  (∀x,o=some x->From w.heap.size w' x.1 (.agg #[.int .i64 k1,.int .i64 n1,.slice A1 l1 c1])/\From w.heap.size w' x.2 (.agg #[.int .i64 k2,.int .i64 n2,.slice A2 l2 c2]))/\Ext w w'
theorem j163(s:ByteArray)(w:World)(hs:s.size<=1000000000):Calls Tryz.prog 179 #[.string s] w (LineQ w (j85 s.data.toList)):=by
 have HP:=hdq (fun W=>(show Calls Tryz.prog 192 #[.string s,.int .i64 0,.int .i64 30] W (j17 W.heap.size W s.size (prs 30 s.data.toList 0)) from y77 30 (by omega) s 0 W hs (by omega)));have hln:s.data.toList.length=s.size:=by rw[Array.length_toList];rfl
 obtain⟨l,hl⟩: ∃l,s.data.toList=l:=⟨_,rfl⟩;have HAT:=hdq (fun(a:Nat) (h:a < s.size)=>(show l[a]? =some s[a] from hl▸q69 s h));have HAN:=hdq (fun(a:Nat) (h:s.size<=a)=>(show l[a]? =none from hl▸j40 s h));have HP2:=hdq (fun W (a:Nat) (ha:a+1<=s.size+2)=>(show Calls Tryz.prog 192 #[.string s,.int .i64 ((a:Int)+1),.int .i64 30] W (j17 W.heap.size W s.size (prs 30 l (a+1))) from hl▸y77 30 (by omega) s (a+1) W hs ha));rw[hl] at hln HP⊢;clear hl;obtain⟨O,hO⟩: ∃O,j85 l=O:=⟨_,rfl⟩;rw[hO];have HO:=hdq hO;clear hO;have hx0:=(xr w).alloc (.cells #[.int .i64 0,.int .i64 0,.slice none 0 0,.int .i64 0,.int .i64 0,.slice none 0 0] 83);have hb0:=heap_alloc_new w (.cells #[.int .i64 0,.int .i64 0,.slice none 0 0,.int .i64 0,.int .i64 0,.slice none 0 0] 83);obtain⟨F,hF⟩: ∃F,prs 30 l 0=F:=⟨_,rfl⟩;rw[hF] at HP;go_enter Tryz.func179,Tryz.ntmps179;go_wp2_with fail;generalize hw0:w.alloc _=w0 at hx0 hb0⊢;have hs0:w.heap.size < w0.heap.size:=q10 hb0;clear hw0;refine(HP.out _).mono ?_;rintro e w1 ⟨t,u,nx,rfl,hFt,e1,q1,q2⟩;obtain⟨k0,n0,A0,l0,c0,rfl⟩:=hFt.three;have e2:=(xr w1).alloc (.cells #[.int .i64 k0,.int .i64 n0,.slice A0 l0 c0] 25);have hb1:=heap_alloc_new w1 (.cells #[.int .i64 k0,.int .i64 n0,.slice A0 l0 c0] 25);have hb2:=e2.blk (e1.blk hb0);have hF2:=hFt.ext e2;have hx2:=(hx0.trans e1).trans e2;have hs1:=e1.size;clear hb0 hFt;obtain⟨⟨s0,s1,s2,s3,s4,s5⟩,f0,f1,f2,f3,f4,f5⟩:=own6 hb2;have hout: ∀w',O=none->Ext w w'->LineQ w O (.returned (.tuple #[.agg #[.int .i64 0,.int .i64 0,.slice none 0 0,.int .i64 0,.int .i64 0,.slice none 0 0],.bool false])) w':=fun w' ho h=> by subst ho;exact⟨_,_,_,_,_,_,_,_,_,_,rfl,(fun x h=> by cases h),h⟩
 have HOUT:=hdq hout;clear hout;cases F with
 |none=>
  obtain rfl:=q2 rfl;have hon:O=none:=HO.out▸j165 hF;have HON:=hdq hon;clear q1 q2 hF hon;go_wp2_with fail;refine bodyPost_ret (v:= .tuple #[.agg #[.int .i64 0,.int .i64 0,.slice none 0 0,.int .i64 0,.int .i64 0,.slice none 0 0],.bool false]) (by simp[results,Tryz.results179,go_sem,s0,s1,s2,s3,s4,s5]) rfl (HOUT.out _ HON.out ?_);exact(((((hx2.setCell (by simp) _).setCell (by simp) _).setCell (by simp) _).setCell (by simp) _).setCell (by simp) _).setCell (by simp) _
 |some y=>
  obtain⟨ty,a⟩:=y;obtain⟨rfl,rfl,ha⟩:=q1 _ rfl
  dsimp only at ha
  clear q1 q2;have d0:decide ((a:Int) < 0)=false:=decide_eq_false (by omega);by_cases hae:a=s.size
  · have d1:decide ((s.size:Int)<=(a:Int))=true:=decide_eq_true (by omega)
    have hon:O=none:=HO.out▸q148 hF (by rw[HAN.out a (by omega)];simp);have HON:=hdq hon;have d2:s.size<=a:=by omega
    clear hF hae hon;go_wp2_with fail;refine bodyPost_ret (v:= .tuple #[.agg #[.int .i64 0,.int .i64 0,.slice none 0 0,.int .i64 0,.int .i64 0,.slice none 0 0],.bool false]) (by simp[results,Tryz.results179,go_sem,s0,s1,s2,s3,s4,s5]) rfl (HOUT.out _ HON.out ?_);exact(((((hx2.setCell (by simp) _).setCell (by simp) _).setCell (by simp) _).setCell (by simp) _).setCell (by simp) _).setCell (by simp) _
  · have hlt:a < s.size:=by omega
    have d1:decide ((s.size:Int)<=(a:Int))=false:=decide_eq_false (by omega);obtain⟨x,hx⟩: ∃x,s[a]=x:=⟨_,rfl⟩;have hla:=HAT.out a hlt;rw[hx] at hla;by_cases hx61:x=61
    · subst hx61
      obtain⟨G,hG⟩: ∃G,prs 30 l (a+1)=G:=⟨_,rfl⟩;have HF:=hdq hF;have HG:=hdq hG;have HLA:=hdq hla;have HP3:=hdq (fun W=> HP2.out W a (by omega));rw[hG] at HP3;have hb1s:w1.heap.size <(w1.alloc (.cells #[.int .i64 k0,.int .i64 n0,.slice A0 l0 c0] 25)).heap.size:=q10 hb1;clear hF hla hG s0 s1 s2 s3 s4 s5 f0 f1 f2 f3 f4 f5;go_wp2_with fail;generalize hw2:w1.alloc _=w2 at hb1 hb2 hF2 hx2 e2 hb1s⊢;clear hw2;refine(HP3.out _).mono ?_;rintro e w3 ⟨b,u,nx,rfl,hFb,e3,q1,q2⟩;obtain⟨k4,n4,A4,l4,c4,rfl⟩:=hFb.three;have e4:=(xr w3).alloc (.cells #[.int .i64 k4,.int .i64 n4,.slice A4 l4 c4] 25);have hb4:=heap_alloc_new w3 (.cells #[.int .i64 k4,.int .i64 n4,.slice A4 l4 c4] 25);have hb24:=e4.blk (e3.blk hb2);have hb14:=e4.blk (e3.blk hb1);have hFb4:=hFb.ext e4;have hF4:=(hF2.ext e3).ext e4;have hx4:=(hx2.trans e3).trans e4;have hs3:=e3.size;clear hb1 hb2 hFb hF2;obtain⟨⟨s0,s1,s2,s3,s4,s5⟩,f0,f1,f2,f3,f4,f5⟩:=own6 hb24;obtain⟨y0,y1,y2,-,-,-⟩:=own3 hb14;obtain⟨z0,z1,z2,-,-,-⟩:=own3 hb4;have hne1:w1.heap.size≠w.heap.size:=by omega
      have hne3:w3.heap.size≠w.heap.size:=by omega
      cases G with
      |none=>
       obtain rfl:=q2 rfl;have hon:O=none:=HO.out▸j167 HF.out HLA.out HG.out;subst hon;have t1:((-1:Int)==(s.size:Int))=false:=by rw[beq_eq_false_iff_ne];omega
       clear q1 q2;go_wp2_with fail;refine bodyPost_ret (v:= .tuple #[.agg #[.int .i64 k0,.int .i64 n0,.slice A0 l0 c0,.int .i64 k4,.int .i64 n4,.slice A4 l4 c4],.bool false]) (by simp[results,Tryz.results179,go_sem,s0,s1,s2,s3,s4,s5]) rfl ⟨_,_,_,_,_,_,_,_,_,_,rfl,(fun x h=> by cases h), ?_⟩;exact(((((hx4.setCell (by simp) _).setCell (by simp) _).setCell (by simp) _).setCell (by simp) _).setCell (by simp) _).setCell (by simp) _
      |some y=>
       obtain⟨tb,ee⟩:=y;obtain⟨rfl,rfl,hee⟩:=q1 _ rfl
       dsimp only at hee
       have hr:=q181 HF.out HLA.out HG.out;rw[hln] at hr;have hor:=HO.out.symm.trans hr;clear q1 q2 hr HO;have hset:From w.heap.size ((((((w3.alloc (.cells #[.int .i64 k4,.int .i64 n4,.slice A4 l4 c4] 25)).setCell ⟨w.heap.size,0,none⟩ (.int .i64 k0)).setCell ⟨w.heap.size,1,none⟩ (.int .i64 n0)).setCell ⟨w.heap.size,2,none⟩ (.slice A0 l0 c0)).setCell ⟨w.heap.size,3,none⟩ (.int .i64 k4)).setCell ⟨w.heap.size,4,none⟩ (.int .i64 n4) |>.setCell ⟨w.heap.size,5,none⟩ (.slice A4 l4 c4)) t (.agg #[.int .i64 k0,.int .i64 n0,.slice A0 l0 c0]):=
        ((((((hF4.set (by simp;omega) _).set (by simp;omega) _).set (by simp;omega) _).set (by simp;omega) _).set (by simp;omega) _).set (by simp;omega) _).since (by omega)
       have hset2:From w.heap.size ((((((w3.alloc (.cells #[.int .i64 k4,.int .i64 n4,.slice A4 l4 c4] 25)).setCell ⟨w.heap.size,0,none⟩ (.int .i64 k0)).setCell ⟨w.heap.size,1,none⟩ (.int .i64 n0)).setCell ⟨w.heap.size,2,none⟩ (.slice A0 l0 c0)).setCell ⟨w.heap.size,3,none⟩ (.int .i64 k4)).setCell ⟨w.heap.size,4,none⟩ (.int .i64 n4) |>.setCell ⟨w.heap.size,5,none⟩ (.slice A4 l4 c4)) b (.agg #[.int .i64 k4,.int .i64 n4,.slice A4 l4 c4]):=
        ((((((hFb4.set (by simp;omega) _).set (by simp;omega) _).set (by simp;omega) _).set (by simp;omega) _).set (by simp;omega) _).set (by simp;omega) _).since (by omega)
       have HS1:=hdq hset;have HS2:=hdq hset2;clear hset hset2;by_cases hes:ee=s.size
       · have t1:((ee:Int)==(s.size:Int))=true:=by simp[hes]
         rw[if_pos hes] at hor;subst hor;clear hes;go_wp2_with fail;refine bodyPost_ret (v:= .tuple #[.agg #[.int .i64 k0,.int .i64 n0,.slice A0 l0 c0,.int .i64 k4,.int .i64 n4,.slice A4 l4 c4],.bool true]) (by simp[results,Tryz.results179,go_sem,s0,s1,s2,s3,s4,s5]) rfl ⟨_,_,_,_,_,_,_,_,_,_,rfl,fun x h=> by cases h;exact⟨HS1.out,HS2.out⟩, ?_⟩;exact(((((hx4.setCell (by simp) _).setCell (by simp) _).setCell (by simp) _).setCell (by simp) _).setCell (by simp) _).setCell (by simp) _
       · have t1:((ee:Int)==(s.size:Int))=false:=by rw[beq_eq_false_iff_ne];omega
         rw[if_neg hes] at hor;subst hor;clear hes;go_wp2_with fail;refine bodyPost_ret (v:= .tuple #[.agg #[.int .i64 k0,.int .i64 n0,.slice A0 l0 c0,.int .i64 k4,.int .i64 n4,.slice A4 l4 c4],.bool false]) (by simp[results,Tryz.results179,go_sem,s0,s1,s2,s3,s4,s5]) rfl ⟨_,_,_,_,_,_,_,_,_,_,rfl,(fun x h=> by cases h), ?_⟩;exact(((((hx4.setCell (by simp) _).setCell (by simp) _).setCell (by simp) _).setCell (by simp) _).setCell (by simp) _).setCell (by simp) _
    · have hxn:((x.toNat:Int) !=61)=true:=by
       rw[bne_iff_ne];intro h;have hx:x.toNat=61:=by omega
       exact hx61 (UInt8.toNat_inj.1 (by rw[hx];rfl))
      have hon:O=none:=HO.out▸q148 hF (by rw[hla];intro h;exact hx61 (Option.some.inj h));have HON:=hdq hon;clear hF hla hx61 hon;go_wp2_with fail;refine bodyPost_ret (v:= .tuple #[.agg #[.int .i64 0,.int .i64 0,.slice none 0 0,.int .i64 0,.int .i64 0,.slice none 0 0],.bool false]) (by simp[results,Tryz.results179,go_sem,s0,s1,s2,s3,s4,s5]) rfl (HOUT.out _ HON.out ?_);exact(((((hx2.setCell (by simp) _).setCell (by simp) _).setCell (by simp) _).setCell (by simp) _).setCell (by simp) _).setCell (by simp) _
end Go.Proofs.YtdkamgafpphdjaaGreat
namespace Go.Proofs.YtdkamgafpphdjaaGreat
open Go.RowKit
set_option linter.unusedVariables false
attribute [local go_sem ↓] Go.wp_at_zero Go.wp_at_succ
theorem j82{P:Program}(w:World){ops:Array Oper}{o:Oper}{a:Act}{K:Act->World->Prop}{Q:Exit->Act->World->Prop}{E:Prop}(hgd:o.guard=none)(s x:Operand)(t:TypeId)
 (ho:o.op= .call {callee:= .builtin .append,args:=#[s,x],argTypes:=#[t,t]})
 (e:TypeId) (i:TypeInfo) (z:Value) (ht:P.underlying t=some (.slice e)) (hi:P.info? e=some i) (hz:i.zero=some z) (hsize:i.size=3) (hby:i.bytes=40) (hzs:z.cells.size=3)
 {X:Nat->Prop} {W:World} {v:Value} {ks:List Tr} {tr:Tr} {v0 v1 v2:Value} {gx:Nat} (hs:a.eval s=v) (hG:j20 X W w e v ks) (hW:W.heap.size<=w.heap.size)
 (hT:InT w (fun b=> b < w.heap.size/\v.ownBlock≠some b/\ ¬X b) tr (.agg #[v0,v1,v2]))
 (hx:a.eval x= .slice (some ⟨gx,0,none⟩) 1 1) (hgx:w.heap[gx]? =some (.cells #[v0,v1,v2] e (0,0))) (hn:ks.length < 1099511627776)
 (h: ∀v' w',j20 X W w' e v' (ks++ [tr])->Below W.heap.size w w'->w.grownBy w' v.ownBlock->(∀g,v'.ownBlock=some g->v.ownBlock=some g\/w.heap.size<=g)->K (a.put o.dst v') w'):
 if Region.wanted o (yielded ops a.tmps)=true then Oper.wp P o a w K Q else E:=by
 have hw:Region.wanted o (yielded ops a.tmps)=true:=by simp[Region.wanted,hgd]
 rw[if_pos hw];obtain⟨xs,h1,h2⟩:=hG;obtain⟨v',w',hr,r1,r2,r3⟩:=q16 (P:=P) w W.heap.size t o.type e i z 3 40 ht hi hz hsize hby hzs (by decide) v ks.length xs h1 ⟨gx,0,none⟩ 1 1 [v0,v1,v2] rfl (j59 hgx) (y46 hT) (by unfold maxLen;omega) (by omega) hW;have hB:Below W.heap.size w w':=⟨r2.os,r2.tape,r2.output,r2.size,fun b hb=> r2.block b (by omega) (fun he=> by have:=(h1.lt b he.symm).1;omega)⟩;have hS: ∀b,b < w.heap.size/\v.ownBlock≠some b/\ ¬X b->b < w'.heap.size/\v'.ownBlock≠some b/\ ¬X b:=fun b hb=> by
  refine⟨Nat.lt_of_lt_of_le hb.1 r2.size,fun he=> ?_,hb.2.2⟩;rcases r3 b he with h4|h4
  · exact hb.2.1 h4
  · omega
 have hwk: ∀b,b < w.heap.size/\v.ownBlock≠some b/\ ¬X b->w'.heap[b]? =w.heap[b]? :=fun b hb=> r2.block b hb.1 (fun he=> hb.2.1 he.symm)
 have hG':j20 X W w' e v' (ks++ [tr]):=⟨_,by simpa using r1,RowL.snoc (hT.mono hS hwk) [] h1.1 (h2.mono hS hwk)⟩;unfold Oper.wp execOp;simp only[ho,resolve,invoke,builtin,Sem.run_bind,Sem.run_pure,Result.andThen_ok,List.map_toArray,List.map_cons,List.map_nil,hs,hx,hr];exact h v' w' hG' hB r2 r3
theorem j20.keep{X:Nat->Prop}{W w w':World}{e:TypeId}{v:Value}{ks:List Tr}(h:j20 X W w e v ks)(hs:w.heap.size<=w'.heap.size)(hk: ∀b,b < w.heap.size-> ¬X b->w'.heap[b]? =w.heap[b]?)(ho: ∀b,v.ownBlock=some b-> ¬X b):j20 X W w' e v ks:=by
 obtain⟨xs,h1,h2⟩:=h;exact⟨xs,j28 h1 (fun b hb=> hk b (h1.lt b hb).2 (ho b hb)),h2.mono (fun b hb=>⟨Nat.lt_of_lt_of_le hb.1 hs,hb.2.1,hb.2.2⟩) (fun b hb=> hk b hb.1 hb.2.2)⟩
theorem j20.liesX{X:Nat->Prop}{W w:World}{e:TypeId}{v:Value}{ks:List Tr}(h:j20 X W w e v ks)(ho: ∀b,v.ownBlock=some b-> ¬X b): ∃A cap,v= .slice A ks.length cap/\ks.length<=cap/\cap<=maxLen/\InK w (fun b=> b < w.heap.size/\ ¬X b) A ks:=by
 obtain⟨xs,h1,h2⟩:=h;rcases h1.2 with⟨rfl,h0⟩ |⟨g,cap,cur,rfl,hb,hg,hnc,hcm,hcs,ht⟩
 · have:ks= []:=List.eq_nil_of_length_eq_zero h0
   subst this;exact⟨none,0,rfl,Nat.le_refl _,Nat.zero_le _,.inl rfl⟩
 · refine⟨_,cap,rfl,hnc,hcm,.inr ⟨g,0,rfl,⟨q10 hg,ho g rfl⟩, ?_⟩⟩
   have h3:=RowL.tail (cur.toList.drop (ks.length*3)) (h2.mono (S':=fun b=> b < w.heap.size/\ ¬X b) (fun b hb=>⟨hb.1,hb.2.2⟩) (fun _ _=> rfl));rw[<-ht,List.take_append_drop] at h3;exact RowL.inL hg (pre:= []) h3 (by simp)
theorem j20.widen{X X':Nat->Prop}{W w:World}{e:TypeId}{v:Value}{ks:List Tr}(h:j20 X W w e v ks)(hX: ∀b,b < w.heap.size-> ¬X b-> ¬X' b):j20 X' W w e v ks:=by
 obtain⟨xs,h1,h2⟩:=h;exact⟨xs,h1,h2.mono (fun b hb=>⟨hb.1,hb.2.1,hX b hb.1 hb.2.2⟩) (fun _ _=> rfl)⟩
theorem y178:(Tryz.prog.info? 25).map (fun i=>(i.zero,i.size,i.bytes))=some (some (.agg #[.int .i64 0,.int .i64 0,.slice none 0 0]),3,40):=by kernel_rfl
theorem y87(t:Tr)(w:World)(g m:Nat)(v:Value)(hin:Lies w t v)(hcn:cnt t<=900000)(hR:Rd w g m)(hm:m < 900000):Calls Tryz.prog 76 #[.pointer (some ⟨g,0,none⟩),v] w fun e w'=> ∃t' u,e= .returned u/\cnt t'<=cnt t+1/\From w.heap.size w' t' u/\Rd w' g (m+2)/\Only [g] w w':=by
 have hgl:=hR.lt;obtain⟨k,n,ks⟩:=t;have HC:=hdq (fun W (hW:Ext w W)=> y156 k n ks W v (hin.ext hW) (by omega));obtain⟨A,cap,rfl,hl,hc,hK⟩:=Lies.mk_iff.1 hin;have hlc:=j16 ks;simp only[cnt] at hcn;have hx0:=((xr w).alloc (.cells #[.int .i64 k,.int .i64 n,.slice A ks.length cap] 25)).alloc (.cells #[.int .i64 0,.int .i64 0,.slice none 0 0] 25);obtain⟨b30,b40,hs0⟩:=blk2 (xr ((w.alloc (.cells #[.int .i64 k,.int .i64 n,.slice A ks.length cap] 25)).alloc (.cells #[.int .i64 0,.int .i64 0,.slice none 0 0] 25)));clear hin hK hl hc b30;go_enter Tryz.func76,Tryz.ntmps76;go_wp2_with fail;generalize (w.alloc _).alloc _=w0 at hx0 b40 hs0;refine(HC.out _ hx0).mono ?_;rintro e w1 ⟨B,c,rfl,⟨W,hW0,hG1,hW1⟩,e1⟩;have hx2:=e1.trans ((xr w1).alloc (.cells #[.int .i64 k,.int .i64 n,.slice B ks.length c] 25));obtain⟨w2,hw2⟩: ∃w2,w2=w1.alloc (.cells #[.int .i64 k,.int .i64 n,.slice B ks.length c] 25):=⟨_,rfl⟩;have b52:w2.heap[w1.heap.size]? =some (.cells #[.int .i64 k,.int .i64 n,.slice B ks.length c] 25 (0,0)):=hw2▸heap_alloc_new w1 _;have hG2:j20 (fun b=> b < W.heap.size\/b=w1.heap.size) W w2 25 (.slice B ks.length c) ks:=hw2▸(hG1.widen (fun b hb hn h=> by rcases h with h|h;exact hn h;omega)).ext ((xr w1).alloc _);have hown1: ∀q,(Value.slice B ks.length c).ownBlock=some q->W.heap.size<=q/\q < w1.heap.size:=by
  obtain⟨xs,q1,-⟩:=hG1;exact fun q hq=>⟨(q1.lt q hq).1,(q1.lt q hq).2⟩
 rw[<-hw2] at hx2;have b42:=hx2.blk b40;have hs2:w1.heap.size < w2.heap.size:=q10 b52;obtain⟨g5,hg5⟩: ∃g5,g5=w1.heap.size:=⟨_,rfl⟩;have hW5:W.heap.size<=g5:=by omega
 rw[<-hg5] at hG2 hown1;go_wp2_with fail;rw[<-hw2];rw[<-hg5] at b52⊢;clear hw2 hG1 HC b40;refine(q60 _ g m 50 (hR.ext (hx0.trans hx2)) (by omega)).mono ?_;rintro e w4 ⟨x,rfl,hx50,-,hR4,ho4⟩;have hO4:Only [g] w w4:=(oE (hx0.trans hx2)).trans ho4;have hw15:w.heap.size+1 < g5:=by have:=q10 b42;have:=e1.size;omega
 have b44:=ho4.keepBlk b42 (by simp;omega);have b54:=ho4.keepBlk b52 (by simp;omega);have hnX: ∀q,(Value.slice B ks.length c).ownBlock=some q-> ¬(q < W.heap.size\/q=g5):=fun q hq h=> by have:=hown1 q hq;omega
 have hG4:=hG2.keep ho4.size (fun b hb hn=> ho4.block b hb (fun hm=> hn (.inl (by rw[List.mem_singleton.1 hm];omega)))) hnX;have hgx4:g5 < w4.heap.size:=q10 b54;clear b42 b52 hG2 hR ho4 hs2 hg5;obtain⟨B',c',hBc,hl1,hl2,hKs⟩:=hG4.liesX hnX;cases hBc
 have HK:=hdq (show∀w':World,w4.heap.size<=w'.heap.size->(∀b,W.heap.size<=b->b≠g5->b < w4.heap.size->w'.heap[b]? =w4.heap[b]?)->j18 (w.heap.size+2) w' B ks from fun w' h1 h2=> hKs.mono (fun b hb=>⟨by omega,by omega⟩) (fun b hb=> h2 b (by omega) (by omega) hb.1));have HG:=hdq hG4;have HNX:=hdq hnX;have HOW:=hdq hown1;clear hKs hG4 hnX hown1;by_cases h0:x=0
 · subst h0
   have hx5:=(xr w4).alloc (.cells #[.int .i64 0,.int .i64 17,.int .i64 1,.int .i64 5,.int .i64 6] 3);obtain⟨z0,z1,z2,q0,q1,q2⟩:=own3 b54;go_wp2_with fail;refine(j65 _ g _ (hR4.ext hx5) (by omega) _ 5 [0,17,1,5,6] (by simp) (by decide) (by simp) (y45 rfl) (by intro b o hb;simp at hb;have:=hO4.size;omega)).mono ?_;rintro e w6 ⟨y,rfl,-,hR6,ho6⟩;have hO6:=(hO4.trans (oE (L:= [g]) hx5)).trans ho6;have b46:=ho6.keepBlk (hx5.blk b44) (by simp;omega);have b56:=ho6.keepBlk (hx5.blk b54) (by simp;omega);have hs6:w4.heap.size<=w6.heap.size:=by have:=hx5.size;have:=ho6.size;omega
   have hK7:=HK.out (w6.setCell ⟨g5,0,none⟩ (.int .i64 y)) (by simpa using hs6) (fun b h1 h2 h3=>(Below.heap_setCell _ _ _ _ (by show b≠g5;exact h2)).trans ((ho6.block b (by have:=hx5.size;omega) (by simp;omega)).trans (hx5.heap b h3)));have b47:=j12 b46 (p:=⟨g5,0,none⟩) (by show w.heap.size+1≠g5;omega) (.int .i64 y);have b57:=q11 b56 0 (.int .i64 y);have hR7:Rd (w6.setCell ⟨g5,0,none⟩ (.int .i64 y)) g (m+2):=hR6.set (by show g < g5;omega) _;have hO7:=hO6.setNew (p:=⟨g5,0,none⟩) (by show w.heap.size<=g5;omega) (.int .i64 y);obtain⟨y0,y1,y2,p0,p1,p2⟩:=own3 b56;obtain⟨s0,s1,s2,f0,f1,f2⟩:=own3 b46;have hgx:=hgl;clear z0 z1 z2 q0 q1 q2 hx5 b46 b56 hO6 ho6 hR6 hR4 b44 b54 hO4 hgl;go_wp2_with fail;refine bodyPost_ret (v:= .agg #[.int .i64 y,.int .i64 n,.slice B ks.length c]) (by simp[results,Tryz.results76,go_sem,s0,s1,s2]) rfl ⟨.mk y n ks,_,rfl,by simp only[cnt];omega, ?_, ?_, ?_⟩
   · exact((((From.mk y n hK7 hl1 hl2).set (by simp) _).set (by simp) _).set (by simp) _).since (by omega)
   · exact((hR7.set (by show g < w.heap.size+1;omega) _).set (by show g < w.heap.size+1;omega) _).set (by show g < w.heap.size+1;omega) _
   · exact((hO7.setNew (by simp) _).setNew (by simp) _).setNew (by simp) _
 by_cases h1:x=1
 · subst h1
   have hx5:=(xr w4).alloc (.cells #[.int .i64 21,.int .i64 (-1),.int .i64 1,.int .i64 9223372036854775807] 3);obtain⟨z0,z1,z2,q0,q1,q2⟩:=own3 b54;go_wp2_with fail;refine(j65 _ g _ (hR4.ext hx5) (by omega) _ 4 [21,-1,1,9223372036854775807] (by simp) (by decide) (by simp) (y45 rfl) (by intro b o hb;simp at hb;have:=hO4.size;omega)).mono ?_;rintro e w6 ⟨y,rfl,-,hR6,ho6⟩;have hO6:=(hO4.trans (oE (L:= [g]) hx5)).trans ho6;have b46:=ho6.keepBlk (hx5.blk b44) (by simp;omega);have b56:=ho6.keepBlk (hx5.blk b54) (by simp;omega);have hs6:w4.heap.size<=w6.heap.size:=by have:=hx5.size;have:=ho6.size;omega
   have hK7:=HK.out (w6.setCell ⟨g5,1,none⟩ (.int .i64 y)) (by simpa using hs6) (fun b h1 h2 h3=>(Below.heap_setCell _ _ _ _ (by show b≠g5;exact h2)).trans ((ho6.block b (by have:=hx5.size;omega) (by simp;omega)).trans (hx5.heap b h3)));have b47:=j12 b46 (p:=⟨g5,1,none⟩) (by show w.heap.size+1≠g5;omega) (.int .i64 y);have b57:=q11 b56 1 (.int .i64 y);have hR7:Rd (w6.setCell ⟨g5,1,none⟩ (.int .i64 y)) g (m+2):=hR6.set (by show g < g5;omega) _;have hO7:=hO6.setNew (p:=⟨g5,1,none⟩) (by show w.heap.size<=g5;omega) (.int .i64 y);obtain⟨y0,y1,y2,p0,p1,p2⟩:=own3 b56;obtain⟨s0,s1,s2,f0,f1,f2⟩:=own3 b46;have hgx:=hgl;clear z0 z1 z2 q0 q1 q2 hx5 b46 b56 hO6 ho6 hR6 hR4 b44 b54 hO4 hgl;go_wp2_with fail;refine bodyPost_ret (v:= .agg #[.int .i64 k,.int .i64 y,.slice B ks.length c]) (by simp[results,Tryz.results76,go_sem,s0,s1,s2]) rfl ⟨.mk k y ks,_,rfl,by simp only[cnt];omega, ?_, ?_, ?_⟩
   · exact((((From.mk k y hK7 hl1 hl2).set (by simp) _).set (by simp) _).set (by simp) _).since (by omega)
   · exact((hR7.set (by show g < w.heap.size+1;omega) _).set (by show g < w.heap.size+1;omega) _).set (by show g < w.heap.size+1;omega) _
   · exact((hO7.setNew (by simp) _).setNew (by simp) _).setNew (by simp) _
 by_cases h2:x=2
 · subst h2
   obtain⟨i0,hi,hz0,hz1,hz2⟩:=info_parts y178;have hv4:=y10 b54 2;have HB5:=hdq b54;have HB4:=hdq b44;have hg5n:g5 < w4.heap.size:=q10 b54;have hks5:ks.length < 1099511627776:=by omega
   have hWw:w.heap.size+1 < W.heap.size:=by omega
   clear b54 b44 h0 h1;go_wp2_with fail
   go_region_law (first
    |(go_simp;go_at_call 96;refine(y17 _ 7 0).mono ?_;rintro e w5 ⟨rfl,e5⟩;have e5':Ext w4 w5:=((xr w4).drew).trans e5;have b55:=e5'.blk HB5.out;have hv5:=y10 b55 2;have hs55:g5 < w5.heap.size:=q10 b55)
    |(refine j82 _ (by rfl) (.tmp 25) (.tmp 27) _ (by rfl) 25 i0 _ Tryz.underlying23 hi hz0 hz1 hz2 rfl (by rfl) (X:=fun b=> b < W.heap.size\/b=g5) (W:=W) (tr:= .mk 7 0 []) (HG.out.ext (e5'.trans ((xr w5).alloc _))) (by have:=e5'.size;simp;omega) (InT.mk_iff.2 ⟨none,0,rfl,Nat.le_refl _,Nat.zero_le _,.inl rfl⟩) (by rfl) (heap_alloc_new _ _) hks5 ?_;intro v' w6 hG6 hB6 hg6 ho6;obtain⟨B6,c6,rfl,r1,r2,hK6⟩:=hG6.liesX (fun b hb=> by rcases ho6 b hb with h|h;exact HNX.out b h;(have:=e5'.size;simp at h;omega));have b66:=(hg6.block g5 (by simp;omega) (fun he=> by have:=HOW.out g5 he.symm;omega)).trans (((xr w5).alloc (.cells #[.int .i64 7,.int .i64 0,.slice none 0 0] 25)).blk b55);have hv6:=y10 b66 2;have hf6:=q12 b66 2))
   all_goals(
    have b46:=(hB6.block (w.heap.size+1) (by omega)).trans (((xr w5).alloc (.cells #[.int .i64 7,.int .i64 0,.slice none 0 0] 25)).blk (e5'.blk HB4.out));have hO6:Only [g] w w6:=((hO4.trans (oE (L:= [g]) e5')).trans (oE (L:= [g]) ((xr w5).alloc (.cells #[.int .i64 7,.int .i64 0,.slice none 0 0] 25)))).below hB6 (by omega);have hR6:Rd w6 g (m+1):=((hR4.ext e5').ext ((xr w5).alloc (.cells #[.int .i64 7,.int .i64 0,.slice none 0 0] 25))).under hB6 (by omega);rw[List.length_append,List.length_singleton] at r1;have HK6:=hdq hK6;have hlen2:(ks++ [Tr.mk 7 0 []]).length=ks.length+1:=by simp
    have HL2:=hdq hlen2;obtain⟨y0,y1,y2,p0,p1,p2⟩:=own3 b66;obtain⟨s0,s1,s2,f0,f1,f2⟩:=own3 b46;have hgx:=hgl;clear hlen2 hK6 hB6 hg6 ho6 b46 b66 hG6 b55 hv5 hv4 hgl;go_wp2_with fail;refine bodyPost_ret (v:= .agg #[.int .i64 k,.int .i64 n,.slice B6 (ks.length+1) c6]) (by simp[results,Tryz.results76,go_sem,s0,s1,s2]) rfl ⟨.mk k n (ks++ [.mk 7 0 []]),_,rfl,by simp only[cnt,q96,cnts];omega, ?_, ?_, ?_⟩
    · have hF7:j18 (w.heap.size+2) (w6.setCell ⟨g5,2,none⟩ (.slice B6 (ks.length+1) c6)) B6 (ks++ [.mk 7 0 []]):=HK6.out.mono (fun b hb=>⟨by omega,by simpa using hb.1⟩) (fun b hb=> Below.heap_setCell _ _ _ _ (by show b≠g5;omega))
      have hF8:=From.mk k n hF7 (by rw[HL2.out];exact r1) r2;rw[HL2.out] at hF8;exact(((hF8.set (by simp) _).set (by simp) _).set (by simp) _).since (by omega)
    · exact(((((hR6.mono (by omega)).set (by show g < g5;omega) _).set (by show g < w.heap.size+1;omega) _).set (by show g < w.heap.size+1;omega) _).set (by show g < w.heap.size+1;omega) _)
    · exact((((hO6.setNew (by show w.heap.size<=g5;omega) _).setNew (by simp) _).setNew (by simp) _).setNew (by simp) _))
 by_cases h3:x=3
 · subst h3
   have hFr:From (w.heap.size+2) w4 (.mk k n ks) (.agg #[.int .i64 k,.int .i64 n,.slice B ks.length c]):=From.mk k n (HK.out w4 (Nat.le_refl _) (fun _ _ _ _=> rfl)) hl1 hl2;obtain⟨y0,y1,y2,p0,p1,p2⟩:=own3 b54;clear h0 h1 h2;go_wp2_with fail;refine(y28 (w.heap.size+2) _ 8 _ 1 [.mk k n ks] (by intro h;cases h) (j18.one (g:=w4.heap.size) (e:=25) hFr (by omega) rfl) (by simp;omega) (by simp)).mono ?_;rintro e w6 ⟨u,rfl,hN,e6⟩;obtain⟨k6,n6,A6,l6,c6,rfl⟩:=hN.three;have hx6:=((xr w4).alloc (.cells #[.int .i64 k,.int .i64 n,.slice B ks.length c] 25)).trans e6;have hO6:=hO4.trans (oE (L:= [g]) hx6);have hR6:Rd w6 g (m+2):=(hR4.ext hx6).mono (by omega);obtain⟨s0,s1,s2,f0,f1,f2⟩:=own3 (hx6.blk b44);have hgx:=hgl;clear y0 y1 y2 p0 p1 p2 hgl b44 b54 hFr hR4;go_wp2_with fail;refine bodyPost_ret (v:= .agg #[.int .i64 k6,.int .i64 n6,.slice A6 l6 c6]) (by simp[results,Tryz.results76,go_sem,s0,s1,s2]) rfl ⟨.mk 8 0 [.mk k n ks],_,rfl,by simp only[cnt,cnts];omega, ?_, ?_, ?_⟩
   · exact(((hN.set (by simp) _).set (by simp) _).set (by simp) _).since (by omega)
   · exact((hR6.set (by show g < w.heap.size+1;omega) _).set (by show g < w.heap.size+1;omega) _).set (by show g < w.heap.size+1;omega) _
   · exact((hO6.setNew (by simp) _).setNew (by simp) _).setNew (by simp) _
 by_cases h4:x=4
 · subst h4
   cases hks:ks with
   |nil=>
    subst hks;have hK7:=HK.out w4 (Nat.le_refl _) (fun _ _ _ _=> rfl);have hR7:Rd w4 g (m+2):=hR4.mono (by omega);clear hR4 h0 h1 h2 h3;obtain⟨s0,s1,s2,f0,f1,f2⟩:=own3 b44;obtain⟨x0,x1,x2,-,-,-⟩:=own3 b54;have hgx:=hgl;clear hgl;go_wp2_with fail;refine bodyPost_ret (v:= .agg #[.int .i64 k,.int .i64 n,.slice B 0 c]) (by simp[results,Tryz.results76,go_sem,s0,s1,s2]) rfl ⟨.mk k n [],_,rfl,by simp only[cnt];omega, ?_, ?_, ?_⟩
    · exact((((From.mk k n hK7 hl1 hl2).set (by simp) _).set (by simp) _).set (by simp) _).since (by omega)
    · exact((hR7.set (by show g < w.heap.size+1;omega) _).set (by show g < w.heap.size+1;omega) _).set (by show g < w.heap.size+1;omega) _
    · exact((hO4.setNew (by simp) _).setNew (by simp) _).setNew (by simp) _
   |cons t0 ts=>
    have hkl0:0 < ks.length:=by rw[hks];simp
    rw[<-hks];obtain⟨xs,q1,q2⟩:=HG.out;rcases q1.2 with⟨hv,hz⟩ |⟨r,cap',cur,hv,hbr,hr4,hnc,hcm,hcs,htk⟩
    · omega
    cases hv
    have hr5:W.heap.size<=r/\r < g5:=HOW.out r rfl;have hrow:=RowL.tail (cur.toList.drop (ks.length*3)) (q2.mono (S':=fun b=> b < w4.heap.size/\r≠b/\ ¬(b < W.heap.size\/b=g5)) (fun b hb=>⟨hb.1,fun h=> hb.2.1 (by rw[h];rfl),hb.2.2⟩) (fun _ _=> rfl));rw[<-htk,List.take_append_drop] at hrow;have HRow:=hdq hrow;have hc3:0+3<=cur.size:=by rw[hcs];omega
    have HB5:=hdq b54;have HB4:=hdq b44;have HR:=hdq hr4;obtain⟨y0,y1,y2,p0,p1,p2⟩:=own3 b54;obtain⟨v0,v1,v2,z0,z1,z2,fz0,fz1,fz2⟩:=cells3 (i:=0) hr4 hc3;have hg5n:g5 < w4.heap.size:=q10 b54;have hi0:(0:Int) <(ks.length:Int):=by omega
    have HKS:=hdq hks;have hct:cnts (ks.set 0 (.mk 1 25 []))<=cnts ks:=by
     rw[hks];have:=y118 t0;simp[cnts,cnt]
     omega
    clear b54 b44 h0 h1 h2 h3 hrow htk q1 q2 hr4 hks hcs hc3;go_wp2_with fail
    go_region_law (go_simp;go_at_call 96;refine(y17 _ 1 25).mono ?_;rintro e w5 ⟨rfl,e5⟩;have e5':Ext w4 w5:=((xr w4).drew).trans e5;have b55:=e5'.blk HB5.out;have hv5:=y10 b55 2;have hs55:g5 < w5.heap.size:=q10 b55;have hrb5:=e5'.blk HR.out;have k0:=e5'.cell z0;have k1:=e5'.cell z1;have k2:=e5'.cell z2;have fk0:=q12 hrb5 0;have fk1:=q12 hrb5 1;have fk2:=q12 hrb5 2)
    all_goals(
     obtain⟨w7,hw7⟩: ∃w7,w7=((w5.setCell ⟨r,0,none⟩ (.int .i64 1)).setCell ⟨r,1,none⟩ (.int .i64 25)).setCell ⟨r,2,none⟩ (.slice none 0 0):=⟨_,rfl⟩;have b7r:w7.heap[r]? =some (.cells (((cur.setIfInBounds 0 (.int .i64 1)).setIfInBounds 1 (.int .i64 25)).setIfInBounds 2 (.slice none 0 0)) 25 (0,0)):=by
      rw[hw7];exact q11 (q11 (q11 hrb5 0 _) 1 _) 2 _
     have hne: ∀b,b≠r->w7.heap[b]? =w5.heap[b]? :=fun b hb=> by
      rw[hw7,Below.heap_setCell _ _ _ _ hb,Below.heap_setCell _ _ _ _ hb,Below.heap_setCell _ _ _ _ hb]
     have hs7:w7.heap.size=w5.heap.size:=by rw[hw7];simp
     have hs45:=e5'.size;have hR7:Rd w7 g (m+2):=by
      rw[hw7];exact((((hR4.ext e5').mono (show m+1<=m+2 by omega)).set (p:=⟨r,0,none⟩) (by show g < r;omega) _).set (p:=⟨r,1,none⟩) (by show g < r;omega) _).set (p:=⟨r,2,none⟩) (by show g < r;omega) _
     have hO7:Only [g] w w7:=by
      rw[hw7];exact((((hO4.trans (oE (L:= [g]) e5')).setNew (p:=⟨r,0,none⟩) (by show w.heap.size<=r;omega) _).setNew (p:=⟨r,1,none⟩) (by show w.heap.size<=r;omega) _).setNew (p:=⟨r,2,none⟩) (by show w.heap.size<=r;omega) _)
     have b57:=(hne g5 (by omega)).trans b55;have b47:=(hne (w.heap.size+1) (by omega)).trans (e5'.blk HB4.out);have hrow7:=RowL.set (S:=fun b=> b < w7.heap.size/\w.heap.size+2<=b) (t:= .mk 1 25 []) (v0:= .int .i64 1) (v1:= .int .i64 25) (v2:= .slice none 0 0) (InT.mk_iff.2 ⟨none,0,rfl,Nat.le_refl _,Nat.zero_le _,.inl rfl⟩) 0 (HRow.out.mono (w':=w7) (S':=fun b=> b < w7.heap.size/\w.heap.size+2<=b) (fun b hb=>⟨by omega,by omega⟩) (fun b hb=>(hne b (fun h=> hb.2.1 h.symm)).trans (e5'.heap b hb.1)));have hF7:j18 (w.heap.size+2) w7 (some ⟨r,0,none⟩) (ks.set 0 (.mk 1 25 [])):=by
      refine .inr ⟨r,0,rfl,⟨by omega,by rw[hs7];exact q10 hrb5⟩, ?_⟩;have h9:=RowL.inL b7r (pre:= []) (xs:=((cur.toList.set (0*3) (.int .i64 1)).set (0*3+1) (.int .i64 25)).set (0*3+2) (.slice none 0 0)) hrow7 (by simp[Array.toList_setIfInBounds]);exact h9.mono (fun b hb=>⟨hb.2,hb.1⟩) (fun _ _=> rfl) ⟨by rw[hs7];exact q10 hrb5,by omega⟩
     have hF8:=From.mk k n hF7 (by rw[List.length_set];exact hl1) hl2;rw[List.length_set] at hF8;have HF8:=hdq hF8;have hctf:cnt (.mk k n (ks.set 0 (.mk 1 25 [])))<=cnt (.mk k n ks)+1:=by simp only[cnt];omega
     have HCT:=hdq hctf;obtain⟨s0,s1,s2,f0,f1,f2⟩:=own3 b47;obtain⟨x0,x1,x2,-,-,-⟩:=own3 b57;have hgx:=hgl;clear hF8 hF7 hrow7 b57 b47 hne b7r hctf hrb5 k0 k1 k2 fk0 fk1 fk2 b55 hv5 hgl y0 y1 y2 z0 z1 z2 fz0 fz1 fz2 p0 p1 p2
     try rw[<-hw7]
     clear hw7;go_wp2_with fail;refine bodyPost_ret (v:= .agg #[.int .i64 k,.int .i64 n,.slice (some ⟨r,0,none⟩) ks.length c]) (by simp[results,Tryz.results76,go_sem,s0,s1,s2]) rfl ⟨.mk k n (ks.set 0 (.mk 1 25 [])),_,rfl,HCT.out, ?_, ?_, ?_⟩
     · exact(((HF8.out.set (by simp) _).set (by simp) _).set (by simp) _).since (by omega)
     · exact((hR7.set (by show g < w.heap.size+1;omega) _).set (by show g < w.heap.size+1;omega) _).set (by show g < w.heap.size+1;omega) _
     · exact((hO7.setNew (by simp) _).setNew (by simp) _).setNew (by simp) _)
 have t0:(x==0)=false:=beq_eq_false_iff_ne.2 h0;have t1:(x==1)=false:=beq_eq_false_iff_ne.2 h1;have t2:(x==2)=false:=beq_eq_false_iff_ne.2 h2;have t3:(x==3)=false:=beq_eq_false_iff_ne.2 h3;have t4:(x==4)=false:=beq_eq_false_iff_ne.2 h4;have hK7:=HK.out w4 (Nat.le_refl _) (fun _ _ _ _=> rfl);have hR7:Rd w4 g (m+2):=hR4.mono (by omega);clear hR4 h0 h1 h2 h3 h4;obtain⟨s0,s1,s2,f0,f1,f2⟩:=own3 b44;obtain⟨x0,x1,x2,-,-,-⟩:=own3 b54;have hgx:=hgl;clear hgl;go_wp2_with fail;refine bodyPost_ret (v:= .agg #[.int .i64 k,.int .i64 n,.slice B ks.length c]) (by simp[results,Tryz.results76,go_sem,s0,s1,s2]) rfl ⟨.mk k n ks,_,rfl,by simp only[cnt];omega, ?_, ?_, ?_⟩
 · exact((((From.mk k n hK7 hl1 hl2).set (by simp) _).set (by simp) _).set (by simp) _).since (by omega)
 · exact((hR7.set (by show g < w.heap.size+1;omega) _).set (by show g < w.heap.size+1;omega) _).set (by show g < w.heap.size+1;omega) _
 · exact((hO4.setNew (by simp) _).setNew (by simp) _).setNew (by simp) _
theorem y104:(Tryz.prog.info? 25).map (fun i=>(i.zero,i.size,i.bytes))=some (some (.agg #[.int .i64 0,.int .i64 0,.slice none 0 0]),3,40):=by kernel_rfl
theorem q74{P:Program}(w:World){ops:Array Oper}{rest:List Oper}{o:Oper}{a:Act}{Q:Exit->Act->World->Prop}(hgd:o.guard=none)(s x:Operand)(t:TypeId)
 (ho:o.op= .call {callee:= .builtin .append,args:=#[s,x],argTypes:=#[t,t]})
 (base:Nat) (e:TypeId) (i:TypeInfo) (z:Value) (ht:P.underlying t=some (.slice e)) (hi:P.info? e=some i) (hz:i.zero=some z) (hsize:i.size=3) (hby:i.bytes=40) (hzs:z.cells.size=3)
 {v:Value} {ad:Addr} {m cap:Nat} {xs:List Value} (hs:a.eval s=v) (hown:w.ownsRow base e 3 v 0 []) (hbase:base<=w.heap.size) (hx:a.eval x= .slice (some ad) m cap)
 (hl:xs.length=m*3) (hnews: ∀j u,xs[j]? =some u->w.cell? (ad.add j)=some u) (h1: ∀u∈xs,u.oneCell'=true) (hm:m<=1048576)
 (h: ∀v' w',w'.ownsRow base e 3 v' m xs->w.grownBy w' v.ownBlock->(∀g,v'.ownBlock=some g->v.ownBlock=some g\/w.heap.size<=g)->wpList P ops Q rest (a.put o.dst v') w'):wpList P ops Q (o::rest) a w:=by
 refine wpList_plain hgd fun K hK'=> ?_
 obtain⟨v',w',hr,r1,r2,r3⟩:=q16 (P:=P) w base t o.type e i z 3 40 ht hi hz hsize hby hzs (by decide) v 0 [] hown ad m cap xs hl hnews h1 (by unfold maxLen;omega) (by omega) hbase;rw[Nat.zero_add,List.nil_append] at r1;unfold Oper.wp execOp;simp only[ho,resolve,invoke,builtin,Sem.run_bind,Sem.run_pure,Result.andThen_ok,List.map_toArray,List.map_cons,List.map_nil,hs,hx,hr];exact hK' _ _ (h v' w' r1 r2 r3)
def ClnQ(w:World)(N:Nat->Prop)(ks:List Tr)(e:Ending)(w':World):Prop:= ∃v xs,e= .returned v/\w'.ownsRow w.heap.size 25 3 v ks.length xs/\RowL w' (fun b=> N b/\b < w.heap.size) xs ks/\Ext w w'
theorem q105(ks:List Tr)(w:World)(N:Nat->Prop)(A:Option Addr)(cap:Nat)(hK:InK w N A ks)(hn:ks.length<=1048576):Calls Tryz.prog 163 #[.slice A ks.length cap] w (ClnQ w N ks):=by
 obtain⟨i0,hi,hz0,hz1,hz2⟩:=info_parts y104;have hnil: ∀W,(binOp .eql 23 (.slice A ks.length cap) (.slice none 0 0)).run Tryz.prog W= .ok (.bool A.isNone) W:=fun W=> Lib.run_eql_slice_nil W 23 _ A ks.length cap 0 0 Tryz.underlying23
 cases A with
 |none=>
  have h0:ks= []:=by
   rcases hK with h|⟨b,o,h,-⟩
   · exact h
   · cases h
  subst h0;simp only[List.length_nil,Option.isNone_none] at hnil⊢;go_enter Tryz.func163,Tryz.ntmps163;go_wp2_with fail;go_ret;exact⟨_, [],rfl,World.ownsRow_nil _ _ _ _,RowL.nil,xr _⟩
 |some ad=>
  have hx:=(xr w).alloc (.cells #[] 25);have hG:(w.alloc (.cells #[] 25)).ownsRow w.heap.size 25 3 (.slice (some ⟨w.heap.size,0,none⟩) 0 0) 0 []:=World.ownsRow_lit w #[] 0 (Nat.le_refl _) (Nat.zero_le _) rfl;obtain⟨xs,n1,n2,n3,n4⟩: ∃xs:List Value,xs.length=ks.length*3/\(∀j u,xs[j]? =some u->(w.alloc (.cells #[] 25)).cell? (ad.add j)=some u)/\(∀u∈xs,u.oneCell'=true)/\RowL w (fun b=> N b/\b < w.heap.size) xs ks:=by
   rcases hK.bound with rfl|⟨b,o,h,hb,hL⟩
   · exact⟨[],rfl,fun j u h=> by simp at h,fun u h=> by simp at h,RowL.nil⟩
   · obtain⟨xs,n1,n2,n3,n4⟩:=hL.rowL
     simp only[Option.some.injEq] at h;subst h;exact⟨xs,n1,fun j u hu=> by rw[Addr.add_lit];exact hx.cell (n2 j u hu),n3,n4⟩
  have HN:=hdq n2;have H4:=hdq n4;simp only[Option.isNone_some] at hnil;clear hK n2 n4;go_enter Tryz.func163,Tryz.ntmps163;go_wp2_with (at_builtin;go_loud (refine q74 _ rfl (.tmp 5) (.tmp 6) 23 rfl w.heap.size 25 i0 _ Tryz.underlying23 hi hz0 hz1 hz2 rfl (v:= .slice (some ⟨w.heap.size,0,none⟩) 0 0) rfl hG (by simp) rfl n1 HN.out n3 hn ?_))
  intro v' w' r1 r2 r3;have hE:Ext w w':=hx.grown r2 (by intro k hk;simp[Value.ownBlock] at hk;omega);go_wp2_with fail;go_ret;exact⟨v',xs,rfl,r1,H4.out.mono (fun b hb=> hb) (fun b hb=> hE.heap b hb.2),hE⟩
end Go.Proofs.YtdkamgafpphdjaaGreat
