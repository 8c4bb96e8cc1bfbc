/-
  Lemmas towards the law, 9: Parse, DefKit, Par.
-/
import Derived.Test.YtbnkbepgmenblaaGreatTAH
import Derived.Laws.Strings2
set_option linter.unusedVariables false
set_option maxHeartbeats 1000000
set_option maxRecDepth 100000
namespace Go.Proofs.YtbnkbepgmenblaaGreat
open Go.RowKit
theorem y114{c:UInt8}(h:y75 c=true):48<=c.toNat/\c.toNat<=57:=by
 unfold y75 at h;simp[UInt8.le_iff_toNat_le] at h
 exact h
theorem j171{c:UInt8}(h:y75 c=false):c.toNat < 48\/57 < c.toNat:=by
 unfold y75 at h;simp[UInt8.le_iff_toNat_le] at h
 omega
theorem num0(w:World):Calls Tryz.prog 210 #[.string (ofL [])] w fun e w'=> e= .returned (.tuple #[.int .i64 0,.bool false])/\w=w':=by
 have hs:ofL []=({data:=#[]}:ByteArray):=rfl;rw[hs];clear hs;go_enter Tryz.func210,Tryz.ntmps210;go_wp2_with fail;go_ret2;exact⟨rfl,rfl⟩
theorem num1(w:World)(c:UInt8)(hd:y75 c=true):Calls Tryz.prog 210 #[.string (ofL [c])] w fun e w'=> e= .returned (.tuple #[.int .i64 ((c.toNat:Int) - 48),.bool true])/\w=w':=by
 have hs:ofL [c]=({data:=#[c]}:ByteArray):=rfl;obtain⟨h1,h2⟩:=y114 hd;have h0: ∀h,({data:=#[c]}:ByteArray)[0]'h=c:=fun _=> rfl
 obtain⟨m,hm⟩: ∃m,c.toNat=m:=⟨_,rfl⟩;rw[hs];rw[hm] at h1 h2⊢;have t1:((m:Int)==45)=false:=by rw[beq_eq_false_iff_ne];omega
 have t2:decide ((m:Int) < 48)=false:=decide_eq_false (by omega);have t3:decide ((57:Int) <(m:Int))=false:=decide_eq_false (by omega);clear hs hd;obtain⟨b4,t4⟩: ∃b4,((m:Int)==48)=b4:=⟨_,rfl⟩;cases b4
 all_goals
  go_enter Tryz.func210,Tryz.ntmps210;go_wp2_with fail;refine wp_loop_rounds 2 ?_;rw[rounds_succ];go_wp2_with fail;rw[rounds_succ];go_wp2_with fail;go_ret2;exact⟨by simp,rfl⟩
theorem num2(w:World)(c d:UInt8)(hd:y75 c=true)(mz:y75 d=true)(sw:c≠48):Calls Tryz.prog 210 #[.string (ofL [c,d])] w fun e w'=> e= .returned (.tuple #[.int .i64 (((c.toNat:Int) - 48)*10+((d.toNat:Int) - 48)),.bool true])/\w=w':=by
 have hs:ofL [c,d]=({data:=#[c,d]}:ByteArray):=rfl;obtain⟨h1,h2⟩:=y114 hd;obtain⟨g1,g2⟩:=y114 mz;have h0: ∀h,({data:=#[c,d]}:ByteArray)[0]'h=c:=fun _=> rfl
 have h0': ∀h,({data:=#[c,d]}:ByteArray)[1]'h=d:=fun _=> rfl
 have hne:c.toNat≠48:=fun h=> sw (UInt8.toNat_inj.1 h)
 obtain⟨m,hm⟩: ∃m,c.toNat=m:=⟨_,rfl⟩;obtain⟨p,hp⟩: ∃p,d.toNat=p:=⟨_,rfl⟩;rw[hs];rw[hm] at h1 h2 hne⊢;rw[hp] at g1 g2⊢;have t1:((m:Int)==45)=false:=by rw[beq_eq_false_iff_ne];omega
 have t2:decide ((m:Int) < 48)=false:=decide_eq_false (by omega);have t3:decide ((57:Int) <(m:Int))=false:=decide_eq_false (by omega);have t4:((m:Int)==48)=false:=by rw[beq_eq_false_iff_ne];omega
 have t5:decide ((p:Int) < 48)=false:=decide_eq_false (by omega);have t6:decide ((57:Int) <(p:Int))=false:=decide_eq_false (by omega);clear hs hd mz sw hne;go_enter Tryz.func210,Tryz.ntmps210;go_wp2_with fail;refine wp_loop_rounds 3 ?_;rw[rounds_succ];go_wp2_with fail;rw[rounds_succ];go_wp2_with fail;rw[rounds_succ];go_wp2_with fail;go_ret2;exact⟨by simp,rfl⟩
theorem num2z(w:World)(d:UInt8):Calls Tryz.prog 210 #[.string (ofL [48,d])] w fun e w'=> e= .returned (.tuple #[.int .i64 0,.bool false])/\w=w':=by
 have hs:ofL [48,d]=({data:=#[48,d]}:ByteArray):=rfl;have h0: ∀h,({data:=#[48,d]}:ByteArray)[0]'h=48:=fun _=> rfl
 rw[hs];clear hs;go_enter Tryz.func210,Tryz.ntmps210;go_wp2_with fail;go_ret2;exact⟨rfl,rfl⟩
theorem j122(s:ByteArray)(a b:Nat):s.extract a b=ofL ((s.data.toList.drop a).take (b - a)):=by
 apply ByteArray.ext
 apply Array.toList_inj.1
 simp[ofL,ByteArray.data_extract,Array.toList_extract,List.extract]
theorem y121(s:ByteArray){a:Nat}(h:a < s.size):s.data.toList[a]? =some s[a]:=by
 rw[Array.getElem?_toList,Array.getElem?_eq_getElem (by exact h)]
 rfl
theorem q54(s:ByteArray){a:Nat}(h:s.size<=a):s.data.toList[a]? =none:=by
 rw[Array.getElem?_toList,Array.getElem?_eq_none (by exact h)]
theorem y127(s:ByteArray)(a:Nat):s.extract a a=ofL []:=by rw[j122];simp
theorem j189(s:ByteArray){a:Nat}(h:a < s.size):s.extract a (a+1)=ofL [s[a]]:=by
 rw[j122];have hl:a < s.data.toList.length:=by rw[Array.length_toList];exact h
 rw[List.drop_eq_getElem_cons hl,show a+1 - a=0+1 by omega,List.take_succ_cons,List.take_zero]
 rfl
theorem ext_two(s:ByteArray){a:Nat}(h:a < s.size)(h1:a+1 < s.size):s.extract a (a+2)=ofL [s[a],s[a+1]]:=by
 rw[j122];have hl:a < s.data.toList.length:=by rw[Array.length_toList];exact h
 have P9:a+1 < s.data.toList.length:=by rw[Array.length_toList];exact h1
 rw[List.drop_eq_getElem_cons hl,List.drop_eq_getElem_cons P9,show a+2 - a=0+1+1 by omega,List.take_succ_cons,List.take_succ_cons,List.take_zero]
 rfl
theorem slc{s:ByteArray}{a e:Nat}{j:Int}{x:ByteArray}(h:a<=e)(h2:e<=s.size)(hj:j=e)(hx:s.extract a e=x)(w:World):(Instr.slice 9 (.string s) (some (.int .i64 a)) (some (.int .i64 j)) none).run Tryz.prog w= .ok (.string x) w:=by
 subst hj;have:=run_slice_string (P:=Tryz.prog) w 9 s .i64 .i64 (a:Int) (e:Int) Tryz.underlying9 (by omega) (by omega) (by omega);rw[this,<-hx]
 rfl
def resN:Option (Int×Nat)->Int×Int
 |some (x,b)=>(x,b)
 |none=>(0,-1)
theorem y147(s:ByteArray)(a:Nat)(w:World)(hs:s.size<=1000000000)(ha:a<=s.size):Calls Tryz.prog 199 #[.string s,.int .i64 a,.int .i64 2] w fun e w'=> e= .returned (.tuple #[.int .i64 (resN (numS s.data.toList a true)).1,.int .i64 (resN (numS s.data.toList a true)).2])/\w=w':=by
 obtain⟨R,hR⟩: ∃R,R=resN (numS s.data.toList a true):=⟨_,rfl⟩;rw[<-hR];by_cases h0:a < s.size
 · obtain⟨c,hc⟩: ∃c,s[a]=c:=⟨_,rfl⟩
   have hl:=y121 s h0;rw[hc] at hl;by_cases hd:y75 c=true
   · obtain⟨g1,g2⟩:=y114 hd
     have iz:=j189 s h0;rw[hc] at iz;have hx1:=slc (j:=(a:Int)+1) (Nat.le_succ a) (by omega) rfl iz;have Tl:=hdq iz;clear iz;obtain⟨m,hm⟩: ∃m,c.toNat=m:=⟨_,rfl⟩;have HN:=hdq (fun W=> num1 W c hd);rw[hm] at g1 g2 HN;have t1:decide ((48:Int)<=(m:Int))=true:=decide_eq_true (by omega);have t2:decide ((m:Int)<=57)=true:=decide_eq_true (by omega);have Cy:R=resN (some ((m:Int) - 48,a+1))->R=((m:Int) - 48,(a:Int)+1):=fun h=> by rw[h];simp[resN]
     by_cases h1:a+1 < s.size
     · obtain⟨d,hdd⟩: ∃d,s[a+1]=d:=⟨_,rfl⟩
       have P9:=y121 s h1;rw[hdd] at P9;have t4:decide ((a:Int)+1 <(s.size:Int))=true:=decide_eq_true (by omega);have t5:decide ((a:Int)+1 <(a:Int)+2)=true:=decide_eq_true (by omega);by_cases uj:y75 d=true
       · obtain⟨q1,q2⟩:=y114 uj
         have Dx:=ext_two s h0 h1;rw[hc,hdd] at Dx;have hx2:=slc (j:=(a:Int)+1+1) (show a<=a+2 by omega) (by omega) (by omega) Dx;obtain⟨p,hp⟩: ∃p,d.toNat=p:=⟨_,rfl⟩;have u1:decide ((48:Int)<=(p:Int))=true:=decide_eq_true (by omega);have u2:decide ((p:Int)<=57)=true:=decide_eq_true (by omega);have t6:decide ((a:Int)+1+1 <(a:Int)+2)=false:=decide_eq_false (by omega);obtain⟨t7,ht7⟩: ∃t7,decide ((a:Int)+1+1 <(s.size:Int))=t7:=⟨_,rfl⟩;by_cases sw:c=48
         · subst sw
           have Ut:=hdq (fun W=> num2z W d);have J1:R=(0,-1):=by rw[hR];unfold numS;rw[hl];simp only[hd,P9,uj];rfl
           have HR:=hdq J1;clear hR J1 hd hl Cy P9 uj Dx HN hx1;cases t7
           all_goals
            go_enter Tryz.func199,Tryz.ntmps199;go_wp2_with fail;refine wp_loop_rounds 3 ?_;rw[rounds_succ];go_wp2_with fail;rw[rounds_succ];go_wp2_with fail;rw[rounds_succ];go_wp2_with fail;refine(Ut.out _).mono ?_;rintro e w1 ⟨rfl,rfl⟩;go_wp2_with fail;go_ret2;exact⟨by rw[HR.out];rfl,rfl⟩
         · have Ut:=hdq (fun W=> num2 W c d hd uj sw)
           rw[hm,hp] at Ut;have J1:R=(((m:Int) - 48)*10+((p:Int) - 48),(a:Int)+2):=by rw[hR];unfold numS;rw[hl];simp only[hd,P9,uj,sw];rw[hm,hp];simp[resN]
           have HR:=hdq J1;have HZ:=hdq (show(a:Int)+1+1=a+2 by omega);clear hR J1 hd hl Cy P9 uj Dx HN hx1 sw;cases t7
           all_goals
            go_enter Tryz.func199,Tryz.ntmps199;go_wp2_with fail;refine wp_loop_rounds 3 ?_;rw[rounds_succ];go_wp2_with fail;rw[rounds_succ];go_wp2_with fail;rw[rounds_succ];go_wp2_with fail;refine(Ut.out _).mono ?_;rintro e w1 ⟨rfl,rfl⟩;go_wp2_with fail;go_ret2;exact⟨by rw[HR.out,<-HZ.out];rfl,rfl⟩
       · have Gx:y75 d=false:=by simpa using uj
         obtain⟨p,hp⟩: ∃p,d.toNat=p:=⟨_,rfl⟩;have hn:=j171 Gx;rw[hp] at hn;have J1:R=((m:Int) - 48,(a:Int)+1):=Cy (by rw[hR];unfold numS;rw[hl];simp only[hd,P9,Gx];rw[hm];rfl);have HR:=hdq J1;clear hR J1 hd hl Cy P9 uj Gx;obtain⟨u1,hu1⟩: ∃u1,decide ((48:Int)<=(p:Int))=u1:=⟨_,rfl⟩;have hu2:u1=true->decide ((p:Int)<=57)=false:=fun h=> by rw[h] at hu1;have:=of_decide_eq_true hu1;exact decide_eq_false (by omega)
         cases u1
         · clear hu2
           go_enter Tryz.func199,Tryz.ntmps199;go_wp2_with fail;refine wp_loop_rounds 2 ?_;rw[rounds_succ];go_wp2_with fail;rw[rounds_succ];go_wp2_with fail;refine(HN.out _).mono ?_;rintro e w1 ⟨rfl,rfl⟩;go_wp2_with fail;go_ret2;exact⟨by rw[HR.out];rfl,rfl⟩
         · have u2:=hu2 rfl
           clear hu2;go_enter Tryz.func199,Tryz.ntmps199;go_wp2_with fail;refine wp_loop_rounds 2 ?_;rw[rounds_succ];go_wp2_with fail;rw[rounds_succ];go_wp2_with fail;refine(HN.out _).mono ?_;rintro e w1 ⟨rfl,rfl⟩;go_wp2_with fail;go_ret2;exact⟨by rw[HR.out];rfl,rfl⟩
     · have J1:R=((m:Int) - 48,(a:Int)+1):=Cy (by rw[hR];unfold numS;rw[hl];simp only[hd,q54 s (show s.size<=a+1 by omega)];rw[hm];rfl)
       have HR:=hdq J1;have t4:decide ((a:Int)+1 <(s.size:Int))=false:=decide_eq_false (by omega);have t5:decide ((a:Int) <(a:Int)+2)=true:=decide_eq_true (by omega);clear hR J1 hd hl Cy;go_enter Tryz.func199,Tryz.ntmps199;go_wp2_with fail;refine wp_loop_rounds 2 ?_;rw[rounds_succ];go_wp2_with fail;rw[rounds_succ];go_wp2_with fail;refine(HN.out _).mono ?_;rintro e w1 ⟨rfl,rfl⟩;go_wp2_with fail;go_ret2;exact⟨by rw[HR.out];rfl,rfl⟩
   · have R3:y75 c=false:=by simpa using hd
     have hx0:=slc (j:=(a:Int)) (Nat.le_refl a) (by omega) rfl (y127 s a);have H7:R=(0,-1):=by
      rw[hR];unfold numS;rw[hl];simp only[R3]
      rfl
     obtain⟨m,hm⟩: ∃m,c.toNat=m:=⟨_,rfl⟩;have hn:=j171 R3;rw[hm] at hn;have HR:=hdq H7;clear hR H7 hd R3 hl;by_cases Y5:m < 48
     · have t1:decide ((48:Int)<=(m:Int))=false:=decide_eq_false (by omega)
       go_enter Tryz.func199,Tryz.ntmps199;go_wp2_with fail;refine wp_loop_rounds 1 ?_;rw[rounds_succ];go_wp2_with fail;refine(num0 _).mono ?_;rintro e w1 ⟨rfl,rfl⟩;go_wp2_with fail;go_ret2;exact⟨by rw[HR.out];rfl,rfl⟩
     · have t1:decide ((48:Int)<=(m:Int))=true:=decide_eq_true (by omega)
       have t2:decide ((m:Int)<=57)=false:=decide_eq_false (by omega);go_enter Tryz.func199,Tryz.ntmps199;go_wp2_with fail;refine wp_loop_rounds 1 ?_;rw[rounds_succ];go_wp2_with fail;refine(num0 _).mono ?_;rintro e w1 ⟨rfl,rfl⟩;go_wp2_with fail;go_ret2;exact⟨by rw[HR.out];rfl,rfl⟩
 · have H7:R=(0,-1):=by
    rw[hR];unfold numS;rw[q54 s (by omega)]
    rfl
   have hx0:=slc (j:=(a:Int)) (Nat.le_refl a) (by omega) rfl (y127 s a);have t0:decide ((a:Int) <(s.size:Int))=false:=decide_eq_false (by omega);have HR:=hdq H7;clear hR H7;go_enter Tryz.func199,Tryz.ntmps199;go_wp2_with fail;refine wp_loop_rounds 1 ?_;rw[rounds_succ];go_wp2_with fail;refine(num0 _).mono ?_;rintro e w1 ⟨rfl,rfl⟩;go_wp2_with fail;go_ret2;exact⟨by rw[HR.out];rfl,rfl⟩
theorem j131(s:ByteArray)(a:Nat)(w:World)(hs:s.size<=1000000000)(ha:a<=s.size):Calls Tryz.prog 199 #[.string s,.int .i64 a,.int .i64 1] w fun e w'=> e= .returned (.tuple #[.int .i64 (resN (numS s.data.toList a false)).1,.int .i64 (resN (numS s.data.toList a false)).2])/\w=w':=by
 obtain⟨R,hR⟩: ∃R,R=resN (numS s.data.toList a false):=⟨_,rfl⟩;rw[<-hR];by_cases h0:a < s.size
 · obtain⟨c,hc⟩: ∃c,s[a]=c:=⟨_,rfl⟩
   have hl:=y121 s h0;rw[hc] at hl;by_cases hd:y75 c=true
   · obtain⟨g1,g2⟩:=y114 hd
     have iz:=j189 s h0;rw[hc] at iz;have hx1:=slc (j:=(a:Int)+1) (Nat.le_succ a) (by omega) rfl iz;have Tl:=hdq iz;clear iz;obtain⟨m,hm⟩: ∃m,c.toNat=m:=⟨_,rfl⟩;have HN:=hdq (fun W=> num1 W c hd);rw[hm] at g1 g2 HN;have t1:decide ((48:Int)<=(m:Int))=true:=decide_eq_true (by omega);have t2:decide ((m:Int)<=57)=true:=decide_eq_true (by omega);have Cy:R=resN (some ((m:Int) - 48,a+1))->R=((m:Int) - 48,(a:Int)+1):=fun h=> by rw[h];simp[resN]
     have J1:R=((m:Int) - 48,(a:Int)+1):=Cy (by rw[hR];unfold numS;rw[hl];simp only[hd];rw[hm];rfl);have HR:=hdq J1;have t3:decide ((a:Int)+1 <(a:Int)+1)=false:=decide_eq_false (by omega);clear hR J1 hd hl Cy;have Pm:s.size=a+1\/a+1 < s.size:=by omega
     go_enter Tryz.func199,Tryz.ntmps199;go_wp2_with fail;refine wp_loop_rounds 2 ?_;rw[rounds_succ];go_wp2_with fail;rw[rounds_succ];rcases Pm with h|h
     · have t4:decide ((a:Int)+1 <(s.size:Int))=false:=decide_eq_false (by omega)
       go_wp2_with fail;refine(HN.out _).mono ?_;rintro e w1 ⟨rfl,rfl⟩;go_wp2_with fail;go_ret2;exact⟨by rw[HR.out];rfl,rfl⟩
     · have t4:decide ((a:Int)+1 <(s.size:Int))=true:=decide_eq_true (by omega)
       go_wp2_with fail;refine(HN.out _).mono ?_;rintro e w1 ⟨rfl,rfl⟩;go_wp2_with fail;go_ret2;exact⟨by rw[HR.out];rfl,rfl⟩
   · have R3:y75 c=false:=by simpa using hd
     have hx0:=slc (j:=(a:Int)) (Nat.le_refl a) (by omega) rfl (y127 s a);have H7:R=(0,-1):=by
      rw[hR];unfold numS;rw[hl];simp only[R3]
      rfl
     obtain⟨m,hm⟩: ∃m,c.toNat=m:=⟨_,rfl⟩;have hn:=j171 R3;rw[hm] at hn;have HR:=hdq H7;clear hR H7 hd R3 hl;by_cases Y5:m < 48
     · have t1:decide ((48:Int)<=(m:Int))=false:=decide_eq_false (by omega)
       go_enter Tryz.func199,Tryz.ntmps199;go_wp2_with fail;refine wp_loop_rounds 1 ?_;rw[rounds_succ];go_wp2_with fail;refine(num0 _).mono ?_;rintro e w1 ⟨rfl,rfl⟩;go_wp2_with fail;go_ret2;exact⟨by rw[HR.out];rfl,rfl⟩
     · have t1:decide ((48:Int)<=(m:Int))=true:=decide_eq_true (by omega)
       have t2:decide ((m:Int)<=57)=false:=decide_eq_false (by omega);go_enter Tryz.func199,Tryz.ntmps199;go_wp2_with fail;refine wp_loop_rounds 1 ?_;rw[rounds_succ];go_wp2_with fail;refine(num0 _).mono ?_;rintro e w1 ⟨rfl,rfl⟩;go_wp2_with fail;go_ret2;exact⟨by rw[HR.out];rfl,rfl⟩
 · have H7:R=(0,-1):=by
    rw[hR];unfold numS;rw[q54 s (by omega)]
    rfl
   have hx0:=slc (j:=(a:Int)) (Nat.le_refl a) (by omega) rfl (y127 s a);have t0:decide ((a:Int) <(s.size:Int))=false:=decide_eq_false (by omega);have HR:=hdq H7;clear hR H7;go_enter Tryz.func199,Tryz.ntmps199;go_wp2_with fail;refine wp_loop_rounds 1 ?_;rw[rounds_succ];go_wp2_with fail;refine(num0 _).mono ?_;rintro e w1 ⟨rfl,rfl⟩;go_wp2_with fail;go_ret2;exact⟨by rw[HR.out];rfl,rfl⟩
theorem OwnL.append{w:World}{e:TypeId}{ys:List Value}{ts:List Tr}{M:List Nat}(ht:OwnL w e ys ts M): ∀{xs:List Value} {ks:List Tr} {L:List Nat},xs.length=ks.length*3->OwnL w e xs ks L->OwnL w e (xs++ys) (ks++ts) (L++M)
 |xs, [],L,hx,h=> by
  have hx0:xs= []:=List.eq_nil_of_length_eq_zero (by simpa using hx);subst hx0;unfold OwnL at h;subst h
  simpa using ht
 |xs,x::ks,L,hx,h=> by
  obtain⟨u0,u1,u2,rest,L1,L2,rfl,h1,h2,rfl⟩:=OwnL.cons_iff.1 h;exact OwnL.cons_iff.2 ⟨u0,u1,u2,_,L1,L2++M,rfl,h1,OwnL.append ht (by simp only[List.length_cons] at hx;omega) h2,by simp⟩
def j176(w w':World)(e:TypeId)(xs:List Value)(ks:List Tr):Prop:= ∃L,OwnL w' e xs ks L/\y44 w w' L
theorem j176.two{a b c d:World}{e:TypeId}{t1 t2:Tr}{x0 x1 x2 y0 y1 y2:Value}(h1:Made a b e t1 (.agg #[x0,x1,x2]))(h2:Made c d e t2 (.agg #[y0,y1,y2]))(Xq:Ext b c)(hab:a.heap.size<=b.heap.size)(Gi:Ext c d):j176 a d e [x0,x1,x2,y0,y1,y2] [t1,t2]:=by
 obtain⟨L,h1,f1⟩:=h1;obtain⟨M,h2,f2⟩:=h2;exact⟨L++(M++ []),OwnL.cons_iff.2 ⟨x0,x1,x2, [y0,y1,y2],L,M++ [],rfl,h1.mono (fun b hb=>(Xq.trans Gi).heap b (f1.2 b hb).2),OwnL.cons_iff.2 ⟨y0,y1,y2, [],M, [],rfl,h2,OwnL.nil,rfl⟩,rfl⟩,by simpa using f1.append f2 Xq.size hab Gi.size⟩
theorem j176.since{a w w':World}{e:TypeId}{xs:List Value}{ks:List Tr}(h:j176 w w' e xs ks)(ha:a.heap.size<=w.heap.size):j176 a w' e xs ks:=by
 obtain⟨L,h,hf⟩:=h;exact⟨L,h,hf.mono ha (Nat.le_refl _)⟩
def OwnD(w:World)(e eT:TypeId)(A:Option Addr)(ks:List Tr)(L:List Nat):Prop:=
 (ks= []/\L= [])\/ ∃b cs L',A=some ⟨b,0,none⟩/\w.heap[b]? =some (.cells cs e (0,0))/\L=b::L'/\OwnL w eT cs.toList ks L'
def MadeD(w w':World)(e eT:TypeId)(A:Option Addr)(ks:List Tr):Prop:= ∃L,OwnD w' e eT A ks L/\y44 w w' L
theorem OwnD.mono{w w':World}{e eT:TypeId}{A:Option Addr}{ks:List Tr}{L:List Nat}(h:OwnD w e eT A ks L)(hw: ∀b,b∈L->w'.heap[b]? =w.heap[b]?):OwnD w' e eT A ks L:=by
 rcases h with h|⟨b,cs,L',rfl,hb,rfl,hl⟩
 · exact .inl h
 · exact .inr ⟨b,cs,L',rfl,(hw b (by simp)).trans hb,rfl,hl.mono (fun x hx=> hw x (by simp[hx]))⟩
theorem MadeD.row{w w1 w':World}{e eT:TypeId}{g:Nat}{cs:Array Value}{ks:List Tr}{L:List Nat}(hb:w'.heap[g]? =some (.cells cs e (0,0)))(hl:OwnL w' eT cs.toList ks L)(hf:y44 w1 w' L)(hg:w.heap.size<=g)(hg1:g < w1.heap.size):MadeD w w' e eT (some ⟨g,0,none⟩) ks:=by
 refine⟨g::L,.inr ⟨g,cs,L,rfl,hb,rfl,hl⟩,List.nodup_cons.2 ⟨fun hm=> ?_,hf.1⟩,fun b hm=> ?_⟩
 · have:=hf.2 g hm
   omega
 · rcases List.mem_cons.1 hm with rfl|hm
   · exact⟨hg,j10 hb⟩
   · have:=hf.2 b hm
     omega
theorem y26(y:Int)(k n:Int)(ks:List Tr)(c:Int):shfT y (.mk k n ks) c= .mk k (if k=1/\c<=n then n+y else n) (j20 y k ks 0 c):=by
 conv=> lhs;unfold shfT
theorem y193(u:Tr)(k n:Int)(ks:List Tr)(x d:Int):sbsT u (.mk k n ks) x d=if k=1/\n=x then shfT d u 0 else .mk k (if k=1/\x < n then n - 1 else n) (q21 u k ks 0 x d):=by
 conv=> lhs;unfold sbsT
theorem j37(u:Tr){k n:Int}(ks:List Tr){x d:Int}(h:k=1/\n=x):sbsT u (.mk k n ks) x d=shfT d u 0:=by rw[y193,if_pos h]
theorem j16(u:Tr){k n:Int}(ks:List Tr){x d:Int}(h: ¬(k=1/\n=x)):sbsT u (.mk k n ks) x d= .mk k (if k=1/\x < n then n - 1 else n) (q21 u k ks 0 x d):=by rw[y193,if_neg h]
mutual
theorem j174(a b:Int)(hb:0<=b): ∀(t:Tr) (c0 c1:Int),c0<=c1->c1<=c0+b->shfT a (shfT b t c0) c1=shfT (b+a) t c0
 | .mk k n ks,c0,c1,h0,h1=> by
  rw[y26,y26,y26,y156 a b hb k ks 0 c0 c1 h0 h1]
  congr 1
  by_cases hk:k=1
  · subst hk
    by_cases h2:c0<=n
    · rw[if_pos (show(1:Int)=1/\c0<=n from⟨rfl,h2⟩),if_pos (show(1:Int)=1/\c0<=n from⟨rfl,h2⟩),if_pos ⟨rfl,by omega⟩];omega
    · rw[if_neg (show¬((1:Int)=1/\c0<=n) from fun h=> h2 h.2),if_neg (show¬((1:Int)=1/\c0<=n) from fun h=> h2 h.2),if_neg (fun h=> by omega)]
  · rw[if_neg (fun h=> hk h.1),if_neg (fun h=> hk h.1),if_neg (fun h=> hk h.1)]
theorem y156(a b:Int)(hb:0<=b): ∀(k:Int) (ts:List Tr) (i:Nat) (c0 c1:Int),c0<=c1->c1<=c0+b->j20 a k (j20 b k ts i c0) i c1=j20 (b+a) k ts i c0
 |_, [],_,_,_,_,_=> rfl
 |k,t::ts,i,c0,c1,h0,h1=> by
  simp only[j20];rw[j174 a b hb t _ _ (by omega) (by omega),y156 a b hb k ts (i+1) c0 c1 h0 h1]
end
mutual
theorem q156(a b:Int)(ha:0<=a)(hb:0<=b): ∀(t:Tr) (c0 c1:Int),c0<=c1->shfT a (shfT b t c0) (c1+b)=shfT b (shfT a t c1) c0
 | .mk k n ks,c0,c1,h0=> by
  rw[y26,y26,y26,y26,y141 a b ha hb k ks 0 c0 c1 h0]
  congr 1
  by_cases hk:k=1
  · subst hk
    by_cases h2:c0<=n
    · rw[if_pos (show(1:Int)=1/\c0<=n from⟨rfl,h2⟩)]
      by_cases h3:c1<=n
      · rw[if_pos ⟨rfl,by omega⟩,if_pos (show(1:Int)=1/\c1<=n from⟨rfl,h3⟩),if_pos ⟨rfl,by omega⟩];omega
      · rw[if_neg (fun h=> by omega),if_neg (show¬((1:Int)=1/\c1<=n) from fun h=> h3 h.2),if_pos ⟨rfl,h2⟩]
    · rw[if_neg (show¬((1:Int)=1/\c0<=n) from fun h=> h2 h.2),if_neg (fun h=> by omega),if_neg (show¬((1:Int)=1/\c1<=n) from fun h=> by omega),if_neg (fun h=> by omega)]
  · rw[if_neg (fun h=> hk h.1),if_neg (fun h=> hk h.1),if_neg (fun h=> hk h.1),if_neg (fun h=> hk h.1)]
theorem y141(a b:Int)(ha:0<=a)(hb:0<=b): ∀(k:Int) (ts:List Tr) (i:Nat) (c0 c1:Int),c0<=c1->j20 a k (j20 b k ts i c0) i (c1+b)=j20 b k (j20 a k ts i c1) i c0
 |_, [],_,_,_,_=> rfl
 |k,t::ts,i,c0,c1,h0=> by
  simp only[j20];rw[show c1+b+und k i=c1+und k i+b by omega,q156 a b ha hb t _ _ (by omega),y141 a b ha hb k ts (i+1) c0 c1 h0]
end
mutual
theorem y101(u:Tr)(y:Int)(hy:0<=y): ∀(t:Tr) (x d c:Int),0<=c->c<=x->c<=d->shfT y (sbsT u t x d) c=sbsT u (shfT y t c) (x+y) (d+y)
 | .mk k n ks,x,d,c,h0,h1,h2=> by
  by_cases hv:k=1/\n=x
  · obtain⟨rfl,rfl⟩:=hv
    rw[j37 u ks ⟨rfl,rfl⟩,y26,if_pos (show(1:Int)=1/\c<=n from⟨rfl,h1⟩),j37 u _ ⟨rfl,rfl⟩];exact j174 y d (by omega) u 0 c h0 (by omega)
  · rw[j16 u ks hv,y26,y26]
    have hne: ¬(k=1/\(if k=1/\c<=n then n+y else n)=x+y):=by
     rintro⟨rfl,h⟩;by_cases h3:c<=n
     · rw[if_pos ⟨rfl,h3⟩] at h;exact hv ⟨rfl,by omega⟩
     · rw[if_neg (fun h=> h3 h.2)] at h;omega
    rw[j16 u _ hne,j94 u y hy k ks 0 x d c h0 h1 h2]
    congr 1
    by_cases hk:k=1
    · subst hk
      simp only[true_and];have hn:n≠x:=fun h=> hv ⟨rfl,h⟩
      by_cases h3:x < n
      · rw[if_pos h3,if_pos (show c<=n - 1 by omega),if_pos (show c<=n by omega),if_pos (by omega)];omega
      · rw[if_neg h3]
        by_cases h4:c<=n
        · rw[if_pos h4,if_neg (by omega)]
        · rw[if_neg h4,if_neg (by omega)]
    · rw[if_neg (fun h=> hk h.1),if_neg (fun h=> hk h.1),if_neg (fun h=> hk h.1),if_neg (fun h=> hk h.1)]
theorem j94(u:Tr)(y:Int)(hy:0<=y): ∀(k:Int) (ts:List Tr) (i:Nat) (x d c:Int),0<=c->c<=x->c<=d->j20 y k (q21 u k ts i x d) i c=q21 u k (j20 y k ts i c) i (x+y) (d+y)
 |_, [],_,_,_,_,_,_,_=> rfl
 |k,t::ts,i,x,d,c,h0,h1,h2=> by
  have:=y86 k i;simp only[q21,j20];rw[y101 u y hy t _ _ _ (by omega) (by omega) (by omega),j94 u y hy k ts (i+1) x d c h0 h1 h2,show x+y+und k i=x+und k i+y by omega,show d+y+und k i=d+und k i+y by omega]
end
mutual
theorem j93(u:Tr)(y c:Int)(hy:0<=y)(hc:0<=c): ∀(t:Tr) (x d:Int),0<=d->x<=c+d->shfT y (sbsT u t x d) (c+d)=sbsT (shfT y u c) (shfT y t (c+d+1)) x d
 | .mk k n ks,x,d,h0,h1=> by
  by_cases hv:k=1/\n=x
  · obtain⟨rfl,rfl⟩:=hv
    rw[j37 u ks ⟨rfl,rfl⟩,y26,if_neg (show¬((1:Int)=1/\c+d+1<=n) from fun h=> by omega),j37 _ _ ⟨rfl,rfl⟩];exact q156 y d hy h0 u 0 c hc
  · rw[j16 u ks hv,y26,y26]
    have hne: ¬(k=1/\(if k=1/\c+d+1<=n then n+y else n)=x):=by
     rintro⟨rfl,h⟩;by_cases h3:c+d+1<=n
     · rw[if_pos ⟨rfl,h3⟩] at h;omega
     · rw[if_neg (fun h=> h3 h.2)] at h;exact hv ⟨rfl,h⟩
    rw[j16 _ _ hne,j86 u y c hy hc k ks 0 x d h0 h1]
    congr 1
    by_cases hk:k=1
    · subst hk
      simp only[true_and];have hn:n≠x:=fun h=> hv ⟨rfl,h⟩
      by_cases h3:x < n
      · rw[if_pos h3]
        by_cases h4:c+d<=n - 1
        · rw[if_pos h4,if_pos (show c+d+1<=n by omega),if_pos (by omega)];omega
        · rw[if_neg h4,if_neg (show¬c+d+1<=n by omega),if_pos h3]
      · rw[if_neg h3,if_neg (show¬c+d<=n by omega),if_neg (show¬c+d+1<=n by omega),if_neg h3]
    · rw[if_neg (fun h=> hk h.1),if_neg (fun h=> hk h.1),if_neg (fun h=> hk h.1),if_neg (fun h=> hk h.1)]
theorem j86(u:Tr)(y c:Int)(hy:0<=y)(hc:0<=c): ∀(k:Int) (ts:List Tr) (i:Nat) (x d:Int),0<=d->x<=c+d->j20 y k (q21 u k ts i x d) i (c+d)=q21 (shfT y u c) k (j20 y k ts i (c+d+1)) i x d
 |_, [],_,_,_,_,_=> rfl
 |k,t::ts,i,x,d,h0,h1=> by
  have:=y86 k i;simp only[q21,j20];rw[show c+d+und k i=c+(d+und k i) by omega,j93 u y c hy hc t _ _ (by omega) (by omega),j86 u y c hy hc k ts (i+1) x d h0 h1,show c+d+1+und k i=c+(d+und k i)+1 by omega]
end
mutual
theorem q193(u:Tr)(e:Int)(he:0<=e): ∀(t:Tr) (x d b:Int),b<=x->x<=b+e->sbsT u (shfT (e+1) t b) x d=shfT e t b
 | .mk k n ks,x,d,b,h0,h1=> by
  rw[y26,y26];by_cases hk:k=1
  · subst hk
    by_cases h2:b<=n
    · rw[if_pos (show(1:Int)=1/\b<=n from⟨rfl,h2⟩),if_pos (show(1:Int)=1/\b<=n from⟨rfl,h2⟩),j16 _ _ (fun h=> by omega),j97 u e he 1 ks 0 x d b h0 h1,if_pos ⟨rfl,by omega⟩]
      congr 1
      omega
    · rw[if_neg (show¬((1:Int)=1/\b<=n) from fun h=> h2 h.2),if_neg (show¬((1:Int)=1/\b<=n) from fun h=> h2 h.2),j16 _ _ (fun h=> by omega),j97 u e he 1 ks 0 x d b h0 h1,if_neg (fun h=> by omega)]
  · rw[if_neg (fun h=> hk h.1),if_neg (fun h=> hk h.1),j16 _ _ (fun h=> hk h.1),j97 u e he k ks 0 x d b h0 h1,if_neg (fun h=> hk h.1)]
theorem j97(u:Tr)(e:Int)(he:0<=e): ∀(k:Int) (ts:List Tr) (i:Nat) (x d b:Int),b<=x->x<=b+e->q21 u k (j20 (e+1) k ts i b) i x d=j20 e k ts i b
 |_, [],_,_,_,_,_,_=> rfl
 |k,t::ts,i,x,d,b,h0,h1=> by
  simp only[j20,q21];rw[q193 u e he t _ _ _ (by omega) (by omega),j97 u e he k ts (i+1) x d b h0 h1]
end
mutual
theorem q174(u a:Tr)(x d:Int)(hx:0<=x)(hd:0<=d): ∀(t:Tr) (b:Int),0<=b->sbsT u (sbsT a t b b) (x+b) (d+b)=sbsT (sbsT u a x d) (sbsT u t (x+1+b) (d+1+b)) b b
 | .mk k n ks,b,hb=> by
  by_cases hk:k=1
  · subst hk
    by_cases h1:n=b
    · subst h1
      have e1:sbsT a (.mk 1 n ks) n n=shfT n a 0:=j37 _ _ ⟨rfl,rfl⟩;have e2:sbsT u (.mk 1 n ks) (x+1+n) (d+1+n)= .mk 1 n (q21 u 1 ks 0 (x+1+n) (d+1+n)):=by
       rw[j16 _ _ (fun h=> by omega),if_neg (fun h=> by omega)]
      rw[e1,e2,j37 _ _ ⟨rfl,rfl⟩,y101 u n hb a x d 0 (Int.le_refl _) hx hd]
    · by_cases h2:n=x+1+b
      · have e1:sbsT a (.mk 1 n ks) b b= .mk 1 (n - 1) (q21 a 1 ks 0 b b):=by
         rw[j16 _ _ (fun h=> h1 h.2),if_pos ⟨rfl,by omega⟩]
        have e2:sbsT u (.mk 1 n ks) (x+1+b) (d+1+b)=shfT (d+1+b) u 0:=j37 _ _ ⟨rfl,h2⟩;rw[e1,e2,j37 _ _ ⟨rfl,by omega⟩,show d+1+b=d+b+1 by omega,q193 _ (d+b) (by omega) u b b 0 hb (by omega)]
      · have e1:sbsT a (.mk 1 n ks) b b= .mk 1 (if b < n then n - 1 else n) (q21 a 1 ks 0 b b):=by
         rw[j16 _ _ (fun h=> h1 h.2)];simp
        have e2:sbsT u (.mk 1 n ks) (x+1+b) (d+1+b)= .mk 1 (if x+1+b < n then n - 1 else n) (q21 u 1 ks 0 (x+1+b) (d+1+b)):=by
         rw[j16 _ _ (fun h=> h2 h.2)];simp
        rw[e1,e2];have hs:=q128 u a x d hx hd 1 ks 0 b hb;by_cases h3:b < n
        · rw[if_pos h3]
          by_cases h4:x+1+b < n
          · rw[if_pos h4,j16 _ _ (fun h=> by omega),j16 _ _ (fun h=> by omega),hs,if_pos ⟨rfl,by omega⟩,if_pos ⟨rfl,by omega⟩]
          · rw[if_neg h4,j16 _ _ (fun h=> by omega),j16 _ _ (fun h=> h1 h.2),hs,if_neg (fun h=> by omega),if_pos ⟨rfl,h3⟩]
        · rw[if_neg h3,if_neg (show¬x+1+b < n by omega),j16 _ _ (fun h=> by omega),j16 _ _ (fun h=> h1 h.2),hs,if_neg (fun h=> by omega),if_neg (fun h=> h3 h.2)]
  · have q: ∀(v:Tr) (ls:List Tr) (y z:Int),sbsT v (.mk k n ls) y z= .mk k n (q21 v k ls 0 y z):=fun v ls y z=> by
     rw[j16 _ _ (fun h=> hk h.1),if_neg (fun h=> hk h.1)]
    rw[q,q,q,q,q128 u a x d hx hd k ks 0 b hb]
theorem q128(u a:Tr)(x d:Int)(hx:0<=x)(hd:0<=d): ∀(k:Int) (ts:List Tr) (i:Nat) (b:Int),0<=b->q21 u k (q21 a k ts i b b) i (x+b) (d+b)=q21 (sbsT u a x d) k (q21 u k ts i (x+1+b) (d+1+b)) i b b
 |_, [],_,_,_=> rfl
 |k,t::ts,i,b,hb=> by
  have:=y86 k i;simp only[q21];rw[show x+b+und k i=x+(b+und k i) by omega,show d+b+und k i=d+(b+und k i) by omega,q174 u a x d hx hd t _ (by omega),q128 u a x d hx hd k ts (i+1) b hb,show x+1+b+und k i=x+1+(b+und k i) by omega,show d+1+b+und k i=d+1+(b+und k i) by omega]
end
theorem y206(u a t:Tr){x d:Int}(hx:0<=x)(hd:0<=d):sbsT u (sbsT a t 0 0) x d=sbsT (sbsT u a x d) (sbsT u t (x+1) (d+1)) 0 0:=by
 have:=q174 u a x d hx hd t 0 (Int.le_refl _)
 simpa using this
theorem y204(a t:Tr){y c:Int}(hy:0<=y)(hc:0<=c):shfT y (sbsT a t 0 0) c=sbsT (shfT y a c) (shfT y t (c+1)) 0 0:=by
 have:=j93 a y c hy hc t 0 0 (Int.le_refl _) (by omega)
 simpa using this
def kd(ks:List Tr)(i:Nat):Tr:=ks.getD i q16
def rdx(k:Int)(ks:List Tr):Int:=
 if k=5 then(if(kd ks 0).kind=4 then 1 else 0)
 else if k=9 then(if(kd ks 3).kind=7 then 2 else if(kd ks 3).kind=8 then 3 else 0)
 else if k=12 then(if(kd ks 1).kind=11 then 4 else 0)
 else if k=15 then(if(kd ks 0).kind=14 then 5 else 0)
 else if k=16 then(if(kd ks 0).kind=14 then 6 else 0)
 else 0
def ctr(k:Int)(ks:List Tr):Tr:=
 if k=5 then sbsT (kd ks 1) (kd (kd ks 0).kids 1) 0 0
 else if k=9 then(if(kd ks 3).kind=7 then kd ks 1 else .mk 5 0 [.mk 5 0 [kd ks 2,kd (kd ks 3).kids 0],.mk 9 0 [kd ks 0,kd ks 1,kd ks 2,kd (kd ks 3).kids 0]])
 else if k=12 then kd ks 2
 else if k=15 then kd (kd ks 0).kids 1
 else kd (kd ks 0).kids 2
def rdxT:Tr->Int
 | .mk k _ ks=> rdx k ks
def ctrT:Tr->Tr
 | .mk k _ ks=> ctr k ks
theorem y98{k:Int}{ks:List Tr}(h:k≠5)(h9:k≠9)(ck:k≠12)(gg:k≠15)(F8:k≠16):rdx k ks=0:=by
 unfold rdx;rw[if_neg h,if_neg h9,if_neg ck,if_neg gg,if_neg F8]
mutual
inductive Par:Tr->Tr->Prop where
 |node {k n:Int} {ks ks':List Tr}:Pars ks ks'->Par (.mk k n ks) (.mk k n ks')
 |red {k n:Int} {ks ks':List Tr}:rdx k ks≠0->Pars ks ks'->Par (.mk k n ks) (ctr k ks')
inductive Pars:List Tr->List Tr->Prop where
 |nil:Pars [] []
 |cons {t t':Tr} {ts nl:List Tr}:Par t t'->Pars ts nl->Pars (t::ts) (t'::nl)
end
mutual
theorem Par.refl: ∀t:Tr,Par t t
 | .mk k n ks=> .node (Pars.refl ks)
theorem Pars.refl: ∀ts:List Tr,Pars ts ts
 | []=> .nil
 |t::ts=> .cons (Par.refl t) (Pars.refl ts)
end
theorem Pars.kd: ∀{a b:List Tr},Pars a b-> ∀i,Par (kd a i) (kd b i)
 |_,_,.nil,i=> by simpa[Go.Proofs.YtbnkbepgmenblaaGreat.kd] using Par.refl q16
 |_,_,.cons h _,0=> by simpa[Go.Proofs.YtbnkbepgmenblaaGreat.kd] using h
 |_,_,.cons _ h,i+1=> by simpa[Go.Proofs.YtbnkbepgmenblaaGreat.kd] using h.kd i
theorem Par.keep{t t':Tr}(h:Par t t')(h5:t.kind≠5)(h9:t.kind≠9)(ck:t.kind≠12)(gg:t.kind≠15)(F8:t.kind≠16):t'.kind=t.kind/\t'.num=t.num/\Pars t.kids t'.kids:=by
 cases h with
 |node h=> exact⟨rfl,rfl,h⟩
 |red h0 h=> exact absurd (y98 h5 h9 ck gg F8) h0
theorem Pars.rdx{k:Int}{a b:List Tr}(h:Pars a b)(hr:rdx k a≠0):Go.Proofs.YtbnkbepgmenblaaGreat.rdx k b=Go.Proofs.YtbnkbepgmenblaaGreat.rdx k a:=by
 have key: ∀i c,c=4\/c=7\/c=8\/c=11\/c=14->(Go.Proofs.YtbnkbepgmenblaaGreat.kd a i).kind=c->(Go.Proofs.YtbnkbepgmenblaaGreat.kd b i).kind=c:=fun i c hc he=> by
  have h1:=(h.kd i).keep (by omega) (by omega) (by omega) (by omega) (by omega);rw[h1.1,he]
 unfold Go.Proofs.YtbnkbepgmenblaaGreat.rdx at hr⊢;by_cases h5:k=5
 · rw[if_pos h5,if_pos h5]
   rw[if_pos h5] at hr;by_cases h1:(Go.Proofs.YtbnkbepgmenblaaGreat.kd a 0).kind=4
   · rw[if_pos h1,if_pos (key 0 4 (by omega) h1)]
   · rw[if_neg h1] at hr;exact absurd rfl hr
 rw[if_neg h5,if_neg h5];rw[if_neg h5] at hr;by_cases h9:k=9
 · rw[if_pos h9,if_pos h9]
   rw[if_pos h9] at hr;by_cases h1:(Go.Proofs.YtbnkbepgmenblaaGreat.kd a 3).kind=7
   · rw[if_pos h1,if_pos (key 3 7 (by omega) h1)]
   · rw[if_neg h1] at hr⊢
     by_cases h2:(Go.Proofs.YtbnkbepgmenblaaGreat.kd a 3).kind=8
     · have:=key 3 8 (by omega) h2
       rw[if_pos h2,if_neg (by omega),if_pos this]
     · rw[if_neg h2] at hr;exact absurd rfl hr
 rw[if_neg h9,if_neg h9];rw[if_neg h9] at hr;by_cases ck:k=12
 · rw[if_pos ck,if_pos ck]
   rw[if_pos ck] at hr;by_cases h1:(Go.Proofs.YtbnkbepgmenblaaGreat.kd a 1).kind=11
   · rw[if_pos h1,if_pos (key 1 11 (by omega) h1)]
   · rw[if_neg h1] at hr;exact absurd rfl hr
 rw[if_neg ck,if_neg ck];rw[if_neg ck] at hr;by_cases gg:k=15
 · rw[if_pos gg,if_pos gg]
   rw[if_pos gg] at hr;by_cases h1:(Go.Proofs.YtbnkbepgmenblaaGreat.kd a 0).kind=14
   · rw[if_pos h1,if_pos (key 0 14 (by omega) h1)]
   · rw[if_neg h1] at hr;exact absurd rfl hr
 rw[if_neg gg,if_neg gg];rw[if_neg gg] at hr;by_cases F8:k=16
 · rw[if_pos F8,if_pos F8]
   rw[if_pos F8] at hr;by_cases h1:(Go.Proofs.YtbnkbepgmenblaaGreat.kd a 0).kind=14
   · rw[if_pos h1,if_pos (key 0 14 (by omega) h1)]
   · rw[if_neg h1] at hr;exact absurd rfl hr
 · rw[if_neg F8] at hr;exact absurd rfl hr
theorem j155(y:Int)(k:Int): ∀(ts:List Tr) (i j:Nat) (c:Int),j < ts.length->kd (j20 y k ts i c) j=shfT y (kd ts j) (c+und k (i+j))
 |t::ts,i,0,c,h=> by simp[j20,kd]
 |t::ts,i,j+1,c,h=> by
  have:=j155 y k ts (i+1) j c (by simpa using h);simp only[j20,kd,List.getD_cons_succ] at this⊢;rw[this,show i+1+j=i+(j+1) by omega]
theorem j153(u:Tr)(k:Int): ∀(ts:List Tr) (i j:Nat) (x d:Int),j < ts.length->kd (q21 u k ts i x d) j=sbsT u (kd ts j) (x+und k (i+j)) (d+und k (i+j))
 |t::ts,i,0,x,d,h=> by simp[q21,kd]
 |t::ts,i,j+1,x,d,h=> by
  have:=j153 u k ts (i+1) j x d (by simpa using h);simp only[q21,kd,List.getD_cons_succ] at this⊢;rw[this,show i+1+j=i+(j+1) by omega]
theorem y139{ts:List Tr}{j:Nat}(h:ts.length<=j):kd ts j=q16:=by
 unfold kd;rw[List.getD_eq_getElem?_getD,List.getElem?_eq_none h]
 rfl
theorem j207(y c:Int):shfT y q16 c=q16:=by
 unfold q16;rw[y26,if_neg (fun h=> by omega)]
 rfl
theorem j216(u:Tr)(x d:Int):sbsT u q16 x d=q16:=by
 unfold q16;rw[j16 _ _ (fun h=> by omega),if_neg (fun h=> by omega)]
 rfl
theorem j45(y k:Int)(ts:List Tr)(j:Nat)(c:Int):kd (j20 y k ts 0 c) j=shfT y (kd ts j) (c+und k j):=by
 rcases Nat.lt_or_ge j ts.length with h|h
 · rw[j155 y k ts 0 j c h,Nat.zero_add]
 · rw[y139 h,y139 (by rw[q64];exact h),j207]
theorem q44(u:Tr)(k:Int)(ts:List Tr)(j:Nat)(x d:Int):kd (q21 u k ts 0 x d) j=sbsT u (kd ts j) (x+und k j) (d+und k j):=by
 rcases Nat.lt_or_ge j ts.length with h|h
 · rw[j153 u k ts 0 j x d h,Nat.zero_add]
 · rw[y139 h,y139 (by rw[q87];exact h),j216]
theorem y21{k:Int}(h3:k≠3)(h4:k≠4)(S9:k≠13)(j:Nat):und k j=0:=by
 unfold und;rw[if_neg (by omega)]
theorem y80(y:Int)(t:Tr)(c:Int):(shfT y t c).kind=t.kind/\(shfT y t c).kids=j20 y t.kind t.kids 0 c:=by
 obtain⟨k,n,ks⟩:=t;rw[y26];exact⟨rfl,rfl⟩
theorem y77(u:Tr)(t:Tr)(x d:Int)(h:t.kind≠1):(sbsT u t x d).kind=t.kind/\(sbsT u t x d).kids=q21 u t.kind t.kids 0 x d:=by
 obtain⟨k,n,ks⟩:=t;have hk:k≠1:=h;rw[j16 (k:=k) (n:=n) u ks (fun e=> hk e.1)];exact⟨rfl,rfl⟩
theorem q34{k:Int}{ks:List Tr}(h:rdx k ks≠0):(k=5/\(kd ks 0).kind=4)\/(k=9/\(kd ks 3).kind=7)\/(k=9/\(kd ks 3).kind=8)\/(k=12/\(kd ks 1).kind=11)\/(k=15/\(kd ks 0).kind=14)\/(k=16/\(kd ks 0).kind=14):=by
 unfold rdx at h;by_cases h5:k=5
 · rw[if_pos h5] at h
   by_cases h1:(kd ks 0).kind=4
   · exact .inl ⟨h5,h1⟩
   · rw[if_neg h1] at h;exact absurd rfl h
 rw[if_neg h5] at h;by_cases h9:k=9
 · rw[if_pos h9] at h
   by_cases h1:(kd ks 3).kind=7
   · exact .inr (.inl ⟨h9,h1⟩)
   · rw[if_neg h1] at h
     by_cases h2:(kd ks 3).kind=8
     · exact .inr (.inr (.inl ⟨h9,h2⟩))
     · rw[if_neg h2] at h;exact absurd rfl h
 rw[if_neg h9] at h;by_cases ck:k=12
 · rw[if_pos ck] at h
   by_cases h1:(kd ks 1).kind=11
   · exact .inr (.inr (.inr (.inl ⟨ck,h1⟩)))
   · rw[if_neg h1] at h;exact absurd rfl h
 rw[if_neg ck] at h;by_cases gg:k=15
 · rw[if_pos gg] at h
   by_cases h1:(kd ks 0).kind=14
   · exact .inr (.inr (.inr (.inr (.inl ⟨gg,h1⟩))))
   · rw[if_neg h1] at h;exact absurd rfl h
 rw[if_neg gg] at h;by_cases F8:k=16
 · rw[if_pos F8] at h
   by_cases h1:(kd ks 0).kind=14
   · exact .inr (.inr (.inr (.inr (.inr ⟨F8,h1⟩))))
   · rw[if_neg h1] at h;exact absurd rfl h
 · rw[if_neg F8] at h;exact absurd rfl h
theorem rdx_of{k:Int}{ks:List Tr}(h:(k=5/\(kd ks 0).kind=4)\/(k=9/\(kd ks 3).kind=7)\/(k=9/\(kd ks 3).kind=8)\/(k=12/\(kd ks 1).kind=11)\/(k=15/\(kd ks 0).kind=14)\/(k=16/\(kd ks 0).kind=14)):rdx k ks≠0:=by
 rcases h with⟨rfl,h⟩ |⟨rfl,h⟩ |⟨rfl,h⟩ |⟨rfl,h⟩ |⟨rfl,h⟩ |⟨rfl,h⟩ <;>(unfold rdx;simp[h])
theorem y59{ks:List Tr}:ctr 5 ks=sbsT (kd ks 1) (kd (kd ks 0).kids 1) 0 0:=rfl
theorem q47{ks:List Tr}(h:(kd ks 3).kind=7):ctr 9 ks=kd ks 1:=by unfold ctr;simp[h]
theorem q48{ks:List Tr}(h:(kd ks 3).kind=8):ctr 9 ks= .mk 5 0 [.mk 5 0 [kd ks 2,kd (kd ks 3).kids 0],.mk 9 0 [kd ks 0,kd ks 1,kd ks 2,kd (kd ks 3).kids 0]]:=by unfold ctr;simp[h]
theorem j72{ks:List Tr}:ctr 12 ks=kd ks 2:=rfl
theorem q62{ks:List Tr}:ctr 15 ks=kd (kd ks 0).kids 1:=rfl
theorem q65{ks:List Tr}:ctr 16 ks=kd (kd ks 0).kids 2:=rfl
theorem und4:und 4 1=1:=rfl
theorem y103(y k n:Int)(ks:List Tr)(c:Int)(h:k≠1):shfT y (.mk k n ks) c= .mk k n (j20 y k ks 0 c):=by rw[y26,if_neg (fun e=> h e.1)]
theorem j106(u:Tr)(k n:Int)(ks:List Tr)(x d:Int)(h:k≠1):sbsT u (.mk k n ks) x d= .mk k n (q21 u k ks 0 x d):=by rw[j16 _ _ (fun e=> h e.1),if_neg (fun e=> h e.1)]
theorem q197{k:Int}{ks:List Tr}(h:rdx k ks≠0){y c:Int}(hy:0<=y)(hc:0<=c):rdx k (j20 y k ks 0 c)≠0/\shfT y (ctr k ks) c=ctr k (j20 y k ks 0 c):=by
 have hcs:=q34 h;have kk: ∀j,(kd (j20 y k ks 0 c) j).kind=(kd ks j).kind:=fun j=> by rw[j45];exact(y80 y _ _).1
 refine⟨rdx_of (by simpa only[kk] using hcs), ?_⟩;rcases hcs with⟨rfl,g⟩ |⟨rfl,g⟩ |⟨rfl,g⟩ |⟨rfl,g⟩ |⟨rfl,g⟩ |⟨rfl,g⟩
 · rw[y59,y59,j45,j45,(y80 y _ _).2,g,j45,und4,y21 (by decide) (by decide) (by decide),y21 (by decide) (by decide) (by decide),Int.add_zero,y204 _ _ hy hc]
 · rw[q47 g,q47 (by rw[kk,g]),j45,y21 (by decide) (by decide) (by decide),Int.add_zero]
 · rw[q48 g,q48 (by rw[kk,g])]
   rw[j45,j45,j45,j45,(y80 y _ _).2,g,j45];simp only[y21 (show(9:Int)≠3 by decide) (by decide) (by decide),y21 (show(8:Int)≠3 by decide) (by decide) (by decide),Int.add_zero];rw[y103 _ 5 _ _ _ (by decide)];simp only[j20,y21 (show(5:Int)≠3 by decide) (by decide) (by decide),Int.add_zero];rw[y103 _ 5 _ _ _ (by decide),y103 _ 9 _ _ _ (by decide)];simp only[j20,y21 (show(5:Int)≠3 by decide) (by decide) (by decide),y21 (show(9:Int)≠3 by decide) (by decide) (by decide),Int.add_zero]
 · rw[j72,j72,j45,y21 (by decide) (by decide) (by decide),Int.add_zero]
 · rw[q62,q62,j45,(y80 y _ _).2,g,j45,y21 (by decide) (by decide) (by decide),y21 (by decide) (by decide) (by decide),Int.add_zero,Int.add_zero]
 · rw[q65,q65,j45,(y80 y _ _).2,g,j45,y21 (by decide) (by decide) (by decide),y21 (by decide) (by decide) (by decide),Int.add_zero,Int.add_zero]
theorem q177{k:Int}{ks:List Tr}(h:rdx k ks≠0)(u:Tr){x d:Int}(hx:0<=x)(hd:0<=d):rdx k (q21 u k ks 0 x d)≠0/\sbsT u (ctr k ks) x d=ctr k (q21 u k ks 0 x d):=by
 have hcs:=q34 h;have kk: ∀j,(kd ks j).kind≠1->(kd (q21 u k ks 0 x d) j).kind=(kd ks j).kind:=fun j hj=> by rw[q44];exact(y77 u _ _ _ hj).1
 refine⟨rdx_of ?_, ?_⟩
 · rcases hcs with⟨h1,g⟩ |⟨h1,g⟩ |⟨h1,g⟩ |⟨h1,g⟩ |⟨h1,g⟩ |⟨h1,g⟩
   · exact .inl ⟨h1,by rw[kk _ (by omega),g]⟩
   · exact .inr (.inl ⟨h1,by rw[kk _ (by omega),g]⟩)
   · exact .inr (.inr (.inl ⟨h1,by rw[kk _ (by omega),g]⟩))
   · exact .inr (.inr (.inr (.inl ⟨h1,by rw[kk _ (by omega),g]⟩)))
   · exact .inr (.inr (.inr (.inr (.inl ⟨h1,by rw[kk _ (by omega),g]⟩))))
   · exact .inr (.inr (.inr (.inr (.inr ⟨h1,by rw[kk _ (by omega),g]⟩))))
 rcases hcs with⟨rfl,g⟩ |⟨rfl,g⟩ |⟨rfl,g⟩ |⟨rfl,g⟩ |⟨rfl,g⟩ |⟨rfl,g⟩
 · rw[y59,y59,q44,q44,(y77 u _ _ _ (by omega)).2,g,q44,und4,y21 (by decide) (by decide) (by decide),y21 (by decide) (by decide) (by decide),Int.add_zero,Int.add_zero,y206 _ _ _ hx hd]
 · rw[q47 g,q47 (by rw[kk _ (by omega),g]),q44,y21 (by decide) (by decide) (by decide),Int.add_zero,Int.add_zero]
 · rw[q48 g,q48 (by rw[kk _ (by omega),g])]
   rw[q44,q44,q44,q44,(y77 u _ _ _ (by omega)).2,g,q44];simp only[y21 (show(9:Int)≠3 by decide) (by decide) (by decide),y21 (show(8:Int)≠3 by decide) (by decide) (by decide),Int.add_zero];rw[j106 _ 5 _ _ _ _ (by decide)];simp only[q21,y21 (show(5:Int)≠3 by decide) (by decide) (by decide),Int.add_zero];rw[j106 _ 5 _ _ _ _ (by decide),j106 _ 9 _ _ _ _ (by decide)];simp only[q21,y21 (show(5:Int)≠3 by decide) (by decide) (by decide),y21 (show(9:Int)≠3 by decide) (by decide) (by decide),Int.add_zero]
 · rw[j72,j72,q44,y21 (by decide) (by decide) (by decide),Int.add_zero,Int.add_zero]
 · rw[q62,q62,q44,(y77 u _ _ _ (by omega)).2,g,q44,y21 (by decide) (by decide) (by decide),y21 (by decide) (by decide) (by decide)]
   simp only[Int.add_zero]
 · rw[q65,q65,q44,(y77 u _ _ _ (by omega)).2,g,q44,y21 (by decide) (by decide) (by decide),y21 (by decide) (by decide) (by decide)]
   simp only[Int.add_zero]
mutual
theorem Par.shf{y:Int}(hy:0<=y): ∀{t t':Tr} (c:Int),0<=c->Par t t'->Par (shfT y t c) (shfT y t' c)
 |_,_,c,hc,.node h=> by
  rw[y26,y26];exact .node (Pars.shf hy _ 0 c hc h)
 |_,_,c,hc,.red (k:=k) (n:=n) (ks:=ks) (ks':=ks') h0 h=> by
  have h1:=q197 (show rdx k ks'≠0 by rw[h.rdx h0];exact h0) hy hc;rw[y26,h1.2];exact .red (q197 h0 hy hc).1 (Pars.shf hy _ 0 c hc h)
theorem Pars.shf{y:Int}(hy:0<=y): ∀{ts nl:List Tr} (k:Int) (i:Nat) (c:Int),0<=c->Pars ts nl->Pars (j20 y k ts i c) (j20 y k nl i c)
 |_,_,k,i,c,hc,.nil=> .nil
 |_,_,k,i,c,hc,.cons h hs=> by
  have:=y86 k i;simp only[j20];exact .cons (Par.shf hy _ (by omega) h) (Pars.shf hy k (i+1) c hc hs)
end
mutual
theorem Par.sbs{u u':Tr}(hu:Par u u'): ∀{t t':Tr} (x d:Int),0<=x->0<=d->Par t t'->Par (sbsT u t x d) (sbsT u' t' x d)
 |_,_,x,d,hx,hd,.node (k:=k) (n:=n) h=> by
  by_cases hv:k=1/\n=x
  · rw[j37 _ _ hv,j37 _ _ hv]
    exact hu.shf hd 0 (Int.le_refl _)
  · rw[j16 _ _ hv,j16 _ _ hv]
    exact .node (Pars.sbs hu _ 0 x d hx hd h)
 |_,_,x,d,hx,hd,.red (k:=k) (n:=n) (ks:=ks) (ks':=ks') h0 h=> by
  have h1:=q177 (show rdx k ks'≠0 by rw[h.rdx h0];exact h0) u' hx hd;have hv: ¬(k=1/\n=x):=fun e=> h0 (y98 (by omega) (by omega) (by omega) (by omega) (by omega))
  rw[j16 _ _ hv,h1.2];exact .red (q177 h0 u hx hd).1 (Pars.sbs hu _ 0 x d hx hd h)
theorem Pars.sbs{u u':Tr}(hu:Par u u'): ∀{ts nl:List Tr} (k:Int) (i:Nat) (x d:Int),0<=x->0<=d->Pars ts nl->Pars (q21 u k ts i x d) (q21 u' k nl i x d)
 |_,_,k,i,x,d,hx,hd,.nil=> .nil
 |_,_,k,i,x,d,hx,hd,.cons h hs=> by
  have:=y86 k i;simp only[q21];exact .cons (Par.sbs hu _ _ (by omega) (by omega) h) (Pars.sbs hu k (i+1) x d hx hd hs)
end
theorem Par.kids_of{t t':Tr}(h:Par t t')(hk:t.kind=4\/t.kind=7\/t.kind=8\/t.kind=11\/t.kind=14):t'.kind=t.kind/\Pars t.kids t'.kids:=by
 have:=h.keep (by omega) (by omega) (by omega) (by omega) (by omega);exact⟨this.1,this.2.2⟩
theorem Pars.ctr{k:Int}{a b:List Tr}(h:Pars a b)(h0:Go.Proofs.YtbnkbepgmenblaaGreat.rdx k a≠0):Par (Go.Proofs.YtbnkbepgmenblaaGreat.ctr k a) (Go.Proofs.YtbnkbepgmenblaaGreat.ctr k b):=by
 have hcs:=q34 h0;rcases hcs with⟨rfl,h1⟩ |⟨rfl,h1⟩ |⟨rfl,h1⟩ |⟨rfl,h1⟩ |⟨rfl,h1⟩ |⟨rfl,h1⟩
 · rw[y59,y59]
   exact(h.kd 1).sbs 0 0 (Int.le_refl _) (Int.le_refl _) (((h.kd 0).kids_of (by omega)).2.kd 1)
 · rw[q47 h1,q47 (by rw[((h.kd 3).kids_of (by omega)).1];exact h1)]
   exact h.kd 1
 · rw[q48 h1,q48 (by rw[((h.kd 3).kids_of (by omega)).1];exact h1)]
   have ha:=((h.kd 3).kids_of (by omega)).2.kd 0;exact .node (.cons (.node (.cons (h.kd 2) (.cons ha .nil))) (.cons (.node (.cons (h.kd 0) (.cons (h.kd 1) (.cons (h.kd 2) (.cons ha .nil))))) .nil))
 · exact h.kd 2
 · rw[q62,q62]
   exact((h.kd 0).kids_of (by omega)).2.kd 1
 · rw[q65,q65]
   exact((h.kd 0).kids_of (by omega)).2.kd 2
mutual
def dev:Tr->Tr
 | .mk k n ks=> if rdx k ks≠0 then ctr k (devs ks) else .mk k n (devs ks)
def devs:List Tr->List Tr
 | []=> []
 |t::ts=> dev t::devs ts
end
theorem dev_mk(k n:Int)(ks:List Tr):dev (.mk k n ks)=if rdx k ks≠0 then ctr k (devs ks) else .mk k n (devs ks):=by
 conv=> lhs;unfold dev
mutual
theorem Par.tri: ∀{t t':Tr},Par t t'->Par t' (dev t)
 |_,_,.node (k:=k) (n:=n) (ks:=ks) h=> by
  have h1:=h.tri;rw[dev_mk];by_cases h0:rdx k ks≠0
  · rw[if_pos h0]
    exact .red (by rw[h.rdx h0];exact h0) h1
  · rw[if_neg h0]
    exact .node h1
 |_,_,.red (k:=k) (n:=n) (ks:=ks) h0 h=> by
  have h1:=h.tri;rw[dev_mk,if_pos h0];exact h1.ctr (by rw[h.rdx h0];exact h0)
theorem Pars.tri: ∀{ts nl:List Tr},Pars ts nl->Pars nl (devs ts)
 |_,_,.nil=> .nil
 |_,_,.cons h hs=> .cons h.tri hs.tri
end
inductive Reds:Tr->Tr->Prop where
 |refl (t:Tr):Reds t t
 |step {a b c:Tr}:Reds a b->Par b c->Reds a c
theorem Reds.trans{a b c:Tr}(h:Reds a b)(k:Reds b c):Reds a c:=by
 induction k with
 |refl=> exact h
 |step _ p ih=> exact .step ih p
theorem Reds.one{a b:Tr}(h:Par a b):Reds a b:= .step (.refl a) h
theorem Reds.strip{a b:Tr}(h:Reds a b): ∀{c:Tr},Par a c-> ∃d,Par b d/\Reds c d:=by
 induction h with
 |refl=> exact fun{c} p=>⟨c,p,.refl c⟩
 |step _ p ih=>
  intro c q;obtain⟨d,h1,h2⟩:=ih q;exact⟨_,p.tri,.step h2 h1.tri⟩
theorem Reds.meet{a b:Tr}(h:Reds a b): ∀{c:Tr},Reds a c-> ∃d,Reds b d/\Reds c d:=by
 induction h with
 |refl=> exact fun{c} p=>⟨c,p,.refl c⟩
 |step _ p ih=>
  intro c q;obtain⟨d,h1,h2⟩:=ih q;obtain⟨e,h3,h4⟩:=h1.strip p;exact⟨e,h4,.step h2 h3⟩
mutual
def nrm:Tr->Bool
 | .mk k _ ks=> decide (rdx k ks=0)&& nrms ks
def nrms:List Tr->Bool
 | []=> true
 |t::ts=> nrm t && nrms ts
end
mutual
theorem Par.normal: ∀{t t':Tr},Par t t'->nrm t=true->t'=t
 |_,_,.node (k:=k) (n:=n) (ks:=ks) h,hn=> by
  simp only[nrm,Bool.and_eq_true] at hn;rw[Pars.normal h hn.2]
 |_,_,.red h0 _,hn=> by
  simp only[nrm,Bool.and_eq_true,decide_eq_true_eq] at hn;exact absurd hn.1 h0
theorem Pars.normal: ∀{ts nl:List Tr},Pars ts nl->nrms ts=true->nl=ts
 |_,_,.nil,_=> rfl
 |_,_,.cons h hs,hn=> by
  simp only[nrms,Bool.and_eq_true] at hn;rw[Par.normal h hn.1,Pars.normal hs hn.2]
end
theorem Reds.normal{a b:Tr}(h:Reds a b)(hn:nrm a=true):b=a:=by
 induction h with
 |refl=> rfl
 |step _ p ih=> subst ih;exact p.normal hn
theorem Reds.unique{a b c:Tr}(h:Reds a b)(k:Reds a c)(hb:nrm b=true)(hc:nrm c=true):b=c:=by
 obtain⟨d,h1,h2⟩:=h.meet k;rw[<-h1.normal hb,<-h2.normal hc]
end Go.Proofs.YtbnkbepgmenblaaGreat
