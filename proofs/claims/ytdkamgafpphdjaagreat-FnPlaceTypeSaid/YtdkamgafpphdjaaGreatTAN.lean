/-
  Lemmas towards the law, 14: Parse.
-/
import Derived.Test.YtdkamgafpphdjaaGreatTAL
import Derived.Laws.Strings2
namespace Go.Proofs.YtdkamgafpphdjaaGreat
open Go.RowKit
set_option linter.unusedVariables false
theorem y111{c:UInt8}(h:q70 c=true):48<=c.toNat/\c.toNat<=57:=by
 unfold q70 at h;simp[UInt8.le_iff_toNat_le] at h
 exact h
theorem q198{c:UInt8}(h:q70 c=false):c.toNat < 48\/57 < c.toNat:=by
 unfold q70 at h;simp[UInt8.le_iff_toNat_le] at h
 omega
theorem num0(w:World):Calls Tryz.prog 219 #[.string (ofL [])] w fun e w'=> e= .returned (.tuple #[.int .i64 0, .bool false])/\w=w':=by
 have hs:ofL []=({data:=#[]}:ByteArray):=rfl;rw[hs];clear hs;go_enter Tryz.func219,Tryz.ntmps219;go_wp2_with fail;go_ret2;exact⟨rfl,rfl⟩
set_option maxRecDepth 100000 in
theorem num1(w:World)(c:UInt8)(hd:q70 c=true):Calls Tryz.prog 219 #[.string (ofL [c])] w fun e w'=> e= .returned (.tuple #[.int .i64 ((c.toNat:Int) - 48), .bool true])/\w=w':=by
 have hs:ofL [c]=({data:=#[c]}:ByteArray):=rfl;obtain⟨h1,h2⟩:=y111 hd;have h0: ∀h,({data:=#[c]}:ByteArray)[0]'h=c:=fun _=> rfl
 obtain⟨m,hm⟩: ∃m,c.toNat=m:=⟨_,rfl⟩;rw[hs];rw[hm] at h1 h2⊢;have t1:((m:Int)==45)=false:=by rw[beq_eq_false_iff_ne];omega
 have t2:decide ((m:Int) < 48)=false:=decide_eq_false (by omega);have t3:decide ((57:Int) <(m:Int))=false:=decide_eq_false (by omega);clear hs hd;obtain⟨b4,t4⟩: ∃b4,((m:Int)==48)=b4:=⟨_,rfl⟩;cases b4
 all_goals
  go_enter Tryz.func219,Tryz.ntmps219;go_wp2_with fail;refine wp_loop_rounds 2 ?_;rw[rounds_succ];go_wp2_with fail;rw[rounds_succ];go_wp2_with fail;go_ret2;exact⟨by simp,rfl⟩
set_option maxRecDepth 100000 in
theorem num2(w:World)(c d:UInt8)(hd:q70 c=true)(hd2:q70 d=true)(h48:c≠48):Calls Tryz.prog 219 #[.string (ofL [c,d])] w fun e w'=> e= .returned (.tuple #[.int .i64 (((c.toNat:Int) - 48)*10+((d.toNat:Int) - 48)), .bool true])/\w=w':=by
 have hs:ofL [c,d]=({data:=#[c,d]}:ByteArray):=rfl;obtain⟨h1,h2⟩:=y111 hd;obtain⟨g1,g2⟩:=y111 hd2;have h0: ∀h,({data:=#[c,d]}:ByteArray)[0]'h=c:=fun _=> rfl
 have h0': ∀h,({data:=#[c,d]}:ByteArray)[1]'h=d:=fun _=> rfl
 have hne:c.toNat≠48:=fun h=> h48 (UInt8.toNat_inj.1 h)
 obtain⟨m,hm⟩: ∃m,c.toNat=m:=⟨_,rfl⟩;obtain⟨p,hp⟩: ∃p,d.toNat=p:=⟨_,rfl⟩;rw[hs];rw[hm] at h1 h2 hne⊢;rw[hp] at g1 g2⊢;have t1:((m:Int)==45)=false:=by rw[beq_eq_false_iff_ne];omega
 have t2:decide ((m:Int) < 48)=false:=decide_eq_false (by omega);have t3:decide ((57:Int) <(m:Int))=false:=decide_eq_false (by omega);have t4:((m:Int)==48)=false:=by rw[beq_eq_false_iff_ne];omega
 have t5:decide ((p:Int) < 48)=false:=decide_eq_false (by omega);have t6:decide ((57:Int) <(p:Int))=false:=decide_eq_false (by omega);clear hs hd hd2 h48 hne;go_enter Tryz.func219,Tryz.ntmps219;go_wp2_with fail;refine wp_loop_rounds 3 ?_;rw[rounds_succ];go_wp2_with fail;rw[rounds_succ];go_wp2_with fail;rw[rounds_succ];go_wp2_with fail;go_ret2;exact⟨by simp,rfl⟩
set_option maxRecDepth 100000 in
theorem num2z(w:World)(d:UInt8):Calls Tryz.prog 219 #[.string (ofL [48,d])] w fun e w'=> e= .returned (.tuple #[.int .i64 0, .bool false])/\w=w':=by
 have hs:ofL [48,d]=({data:=#[48,d]}:ByteArray):=rfl;have h0: ∀h,({data:=#[48,d]}:ByteArray)[0]'h=48:=fun _=> rfl
 rw[hs];clear hs;go_enter Tryz.func219,Tryz.ntmps219;go_wp2_with fail;go_ret2;exact⟨rfl,rfl⟩
theorem j120(s:ByteArray)(a b:Nat):s.extract a b=ofL ((s.data.toList.drop a).take (b - a)):=by
 apply ByteArray.ext
 apply Array.toList_inj.1
 simp[ofL,ByteArray.data_extract,Array.toList_extract,List.extract]
theorem j117(s:ByteArray){a:Nat}(h:a < s.size):s.data.toList[a]? =some s[a]:=by
 rw[Array.getElem?_toList,Array.getElem?_eq_getElem (by exact h)]
 rfl
theorem q51(s:ByteArray){a:Nat}(h:s.size<=a):s.data.toList[a]? =none:=by
 rw[Array.getElem?_toList,Array.getElem?_eq_none (by exact h)]
theorem q119(s:ByteArray)(a:Nat):s.extract a a=ofL []:=by rw[j120];simp
theorem j193(s:ByteArray){a:Nat}(h:a < s.size):s.extract a (a+1)=ofL [s[a]]:=by
 rw[j120];have hl:a < s.data.toList.length:=by rw[Array.length_toList];exact h
 rw[List.drop_eq_getElem_cons hl,show a+1 - a=0+1 by omega,List.take_succ_cons,List.take_zero]
 rfl
theorem ext_two(s:ByteArray){a:Nat}(h:a < s.size)(h1:a+1 < s.size):s.extract a (a+2)=ofL [s[a],s[a+1]]:=by
 rw[j120];have hl:a < s.data.toList.length:=by rw[Array.length_toList];exact h
 have hl1:a+1 < s.data.toList.length:=by rw[Array.length_toList];exact h1
 rw[List.drop_eq_getElem_cons hl,List.drop_eq_getElem_cons hl1,show a+2 - a=0+1+1 by omega,List.take_succ_cons,List.take_succ_cons,List.take_zero]
 rfl
theorem slc{s:ByteArray}{a e:Nat}{j:Int}{x:ByteArray}(h:a<=e)(h2:e<=s.size)(hj:j=e)(hx:s.extract a e=x)(w:World):(Instr.slice 9 (.string s) (some (.int .i64 a)) (some (.int .i64 j)) none).run Tryz.prog w= .ok (.string x) w:=by
 subst hj;have:=run_slice_string (P:=Tryz.prog) w 9 s .i64 .i64 (a:Int) (e:Int) Tryz.underlying9 (by omega) (by omega) (by omega);rw[this,<-hx]
 rfl
def resN:Option (Int×Nat)->Int×Int
 |some (x,b)=>(x,b)
 |none=>(0,-1)
set_option maxRecDepth 100000 in
set_option maxHeartbeats 1000000 in
theorem y140(s:ByteArray)(a:Nat)(w:World)(hs:s.size<=1000000000)(ha:a<=s.size):Calls Tryz.prog 207 #[.string s, .int .i64 a, .int .i64 2] w fun e w'=> e= .returned (.tuple #[.int .i64 (resN (numS s.data.toList a true)).1, .int .i64 (resN (numS s.data.toList a true)).2])/\w=w':=by
 obtain⟨R,hR⟩: ∃R,R=resN (numS s.data.toList a true):=⟨_,rfl⟩;rw[<-hR];by_cases h0:a < s.size
 · obtain⟨c,hc⟩: ∃c,s[a]=c:=⟨_,rfl⟩
   have hl:=j117 s h0;rw[hc] at hl;by_cases hd:q70 c=true
   · obtain⟨g1,g2⟩:=y111 hd
     have hx1':=j193 s h0;rw[hc] at hx1';have hx1:=slc (j:=(a:Int)+1) (Nat.le_succ a) (by omega) rfl hx1';have HX1:=hdq hx1';clear hx1';obtain⟨m,hm⟩: ∃m,c.toNat=m:=⟨_,rfl⟩;have HN:=hdq (fun W=> num1 W c hd);rw[hm] at g1 g2 HN;have t1:decide ((48:Int)<=(m:Int))=true:=decide_eq_true (by omega);have t2:decide ((m:Int)<=57)=true:=decide_eq_true (by omega);have hRu:R=resN (some ((m:Int) - 48,a+1))->R=((m:Int) - 48,(a:Int)+1):=fun h=> by rw[h];simp[resN]
     by_cases h1:a+1 < s.size
     · obtain⟨d,hdd⟩: ∃d,s[a+1]=d:=⟨_,rfl⟩
       have hl1:=j117 s h1;rw[hdd] at hl1;have t4:decide ((a:Int)+1 <(s.size:Int))=true:=decide_eq_true (by omega);have t5:decide ((a:Int)+1 <(a:Int)+2)=true:=decide_eq_true (by omega);by_cases hd1:q70 d=true
       · obtain⟨q1,q2⟩:=y111 hd1
         have hx2':=ext_two s h0 h1;rw[hc,hdd] at hx2';have hx2:=slc (j:=(a:Int)+1+1) (show a<=a+2 by omega) (by omega) (by omega) hx2';obtain⟨p,hp⟩: ∃p,d.toNat=p:=⟨_,rfl⟩;have u1:decide ((48:Int)<=(p:Int))=true:=decide_eq_true (by omega);have u2:decide ((p:Int)<=57)=true:=decide_eq_true (by omega);have t6:decide ((a:Int)+1+1 <(a:Int)+2)=false:=decide_eq_false (by omega);obtain⟨t7,ht7⟩: ∃t7,decide ((a:Int)+1+1 <(s.size:Int))=t7:=⟨_,rfl⟩;by_cases h48:c=48
         · subst h48
           have HN2:=hdq (fun W=> num2z W d);have hRs:R=(0,-1):=by rw[hR];unfold numS;rw[hl];simp only[hd,hl1,hd1];rfl
           have HR:=hdq hRs;clear hR hRs hd hl hRu hl1 hd1 hx2' HN hx1;cases t7
           all_goals
            go_enter Tryz.func207,Tryz.ntmps207;go_wp2_with fail;refine wp_loop_rounds 3 ?_;rw[rounds_succ];go_wp2_with fail;rw[rounds_succ];go_wp2_with fail;rw[rounds_succ];go_wp2_with fail;refine(HN2.out _).mono ?_;rintro e w1 ⟨rfl,rfl⟩;go_wp2_with fail;go_ret2;exact⟨by rw[HR.out];rfl,rfl⟩
         · have HN2:=hdq (fun W=> num2 W c d hd hd1 h48)
           rw[hm,hp] at HN2;have hRs:R=(((m:Int) - 48)*10+((p:Int) - 48),(a:Int)+2):=by rw[hR];unfold numS;rw[hl];simp only[hd,hl1,hd1,h48];rw[hm,hp];simp[resN]
           have HR:=hdq hRs;have HZ:=hdq (show(a:Int)+1+1=a+2 by omega);clear hR hRs hd hl hRu hl1 hd1 hx2' HN hx1 h48;cases t7
           all_goals
            go_enter Tryz.func207,Tryz.ntmps207;go_wp2_with fail;refine wp_loop_rounds 3 ?_;rw[rounds_succ];go_wp2_with fail;rw[rounds_succ];go_wp2_with fail;rw[rounds_succ];go_wp2_with fail;refine(HN2.out _).mono ?_;rintro e w1 ⟨rfl,rfl⟩;go_wp2_with fail;go_ret2;exact⟨by rw[HR.out,<-HZ.out];rfl,rfl⟩
       · have hd1':q70 d=false:=by simpa using hd1
         obtain⟨p,hp⟩: ∃p,d.toNat=p:=⟨_,rfl⟩;have hn:=q198 hd1';rw[hp] at hn;have hRs:R=((m:Int) - 48,(a:Int)+1):=hRu (by rw[hR];unfold numS;rw[hl];simp only[hd,hl1,hd1'];rw[hm];rfl);have HR:=hdq hRs;clear hR hRs hd hl hRu hl1 hd1 hd1';obtain⟨u1,hu1⟩: ∃u1,decide ((48:Int)<=(p:Int))=u1:=⟨_,rfl⟩;have hu2:u1=true->decide ((p:Int)<=57)=false:=fun h=> by rw[h] at hu1;have:=of_decide_eq_true hu1;exact decide_eq_false (by omega)
         cases u1
         · clear hu2
           go_enter Tryz.func207,Tryz.ntmps207;go_wp2_with fail;refine wp_loop_rounds 2 ?_;rw[rounds_succ];go_wp2_with fail;rw[rounds_succ];go_wp2_with fail;refine(HN.out _).mono ?_;rintro e w1 ⟨rfl,rfl⟩;go_wp2_with fail;go_ret2;exact⟨by rw[HR.out];rfl,rfl⟩
         · have u2:=hu2 rfl
           clear hu2;go_enter Tryz.func207,Tryz.ntmps207;go_wp2_with fail;refine wp_loop_rounds 2 ?_;rw[rounds_succ];go_wp2_with fail;rw[rounds_succ];go_wp2_with fail;refine(HN.out _).mono ?_;rintro e w1 ⟨rfl,rfl⟩;go_wp2_with fail;go_ret2;exact⟨by rw[HR.out];rfl,rfl⟩
     · have hRs:R=((m:Int) - 48,(a:Int)+1):=hRu (by rw[hR];unfold numS;rw[hl];simp only[hd,q51 s (show s.size<=a+1 by omega)];rw[hm];rfl)
       have HR:=hdq hRs;have t4:decide ((a:Int)+1 <(s.size:Int))=false:=decide_eq_false (by omega);have t5:decide ((a:Int) <(a:Int)+2)=true:=decide_eq_true (by omega);clear hR hRs hd hl hRu;go_enter Tryz.func207,Tryz.ntmps207;go_wp2_with fail;refine wp_loop_rounds 2 ?_;rw[rounds_succ];go_wp2_with fail;rw[rounds_succ];go_wp2_with fail;refine(HN.out _).mono ?_;rintro e w1 ⟨rfl,rfl⟩;go_wp2_with fail;go_ret2;exact⟨by rw[HR.out];rfl,rfl⟩
   · have hd':q70 c=false:=by simpa using hd
     have hx0:=slc (j:=(a:Int)) (Nat.le_refl a) (by omega) rfl (q119 s a);have hRn:R=(0,-1):=by
      rw[hR];unfold numS;rw[hl];simp only[hd']
      rfl
     obtain⟨m,hm⟩: ∃m,c.toNat=m:=⟨_,rfl⟩;have hn:=q198 hd';rw[hm] at hn;have HR:=hdq hRn;clear hR hRn hd hd' hl;by_cases hlo:m < 48
     · have t1:decide ((48:Int)<=(m:Int))=false:=decide_eq_false (by omega)
       go_enter Tryz.func207,Tryz.ntmps207;go_wp2_with fail;refine wp_loop_rounds 1 ?_;rw[rounds_succ];go_wp2_with fail;refine(num0 _).mono ?_;rintro e w1 ⟨rfl,rfl⟩;go_wp2_with fail;go_ret2;exact⟨by rw[HR.out];rfl,rfl⟩
     · have t1:decide ((48:Int)<=(m:Int))=true:=decide_eq_true (by omega)
       have t2:decide ((m:Int)<=57)=false:=decide_eq_false (by omega);go_enter Tryz.func207,Tryz.ntmps207;go_wp2_with fail;refine wp_loop_rounds 1 ?_;rw[rounds_succ];go_wp2_with fail;refine(num0 _).mono ?_;rintro e w1 ⟨rfl,rfl⟩;go_wp2_with fail;go_ret2;exact⟨by rw[HR.out];rfl,rfl⟩
 · have hRn:R=(0,-1):=by
    rw[hR];unfold numS;rw[q51 s (by omega)]
    rfl
   have hx0:=slc (j:=(a:Int)) (Nat.le_refl a) (by omega) rfl (q119 s a);have t0:decide ((a:Int) <(s.size:Int))=false:=decide_eq_false (by omega);have HR:=hdq hRn;clear hR hRn;go_enter Tryz.func207,Tryz.ntmps207;go_wp2_with fail;refine wp_loop_rounds 1 ?_;rw[rounds_succ];go_wp2_with fail;refine(num0 _).mono ?_;rintro e w1 ⟨rfl,rfl⟩;go_wp2_with fail;go_ret2;exact⟨by rw[HR.out];rfl,rfl⟩
set_option maxRecDepth 100000 in
set_option maxHeartbeats 1000000 in
theorem j135(s:ByteArray)(a:Nat)(w:World)(hs:s.size<=1000000000)(ha:a<=s.size):Calls Tryz.prog 207 #[.string s, .int .i64 a, .int .i64 1] w fun e w'=> e= .returned (.tuple #[.int .i64 (resN (numS s.data.toList a false)).1, .int .i64 (resN (numS s.data.toList a false)).2])/\w=w':=by
 obtain⟨R,hR⟩: ∃R,R=resN (numS s.data.toList a false):=⟨_,rfl⟩;rw[<-hR];by_cases h0:a < s.size
 · obtain⟨c,hc⟩: ∃c,s[a]=c:=⟨_,rfl⟩
   have hl:=j117 s h0;rw[hc] at hl;by_cases hd:q70 c=true
   · obtain⟨g1,g2⟩:=y111 hd
     have hx1':=j193 s h0;rw[hc] at hx1';have hx1:=slc (j:=(a:Int)+1) (Nat.le_succ a) (by omega) rfl hx1';have HX1:=hdq hx1';clear hx1';obtain⟨m,hm⟩: ∃m,c.toNat=m:=⟨_,rfl⟩;have HN:=hdq (fun W=> num1 W c hd);rw[hm] at g1 g2 HN;have t1:decide ((48:Int)<=(m:Int))=true:=decide_eq_true (by omega);have t2:decide ((m:Int)<=57)=true:=decide_eq_true (by omega);have hRu:R=resN (some ((m:Int) - 48,a+1))->R=((m:Int) - 48,(a:Int)+1):=fun h=> by rw[h];simp[resN]
     have hRs:R=((m:Int) - 48,(a:Int)+1):=hRu (by rw[hR];unfold numS;rw[hl];simp only[hd];rw[hm];rfl);have HR:=hdq hRs;have t3:decide ((a:Int)+1 <(a:Int)+1)=false:=decide_eq_false (by omega);clear hR hRs hd hl hRu;have hcase:s.size=a+1\/a+1 < s.size:=by omega
     go_enter Tryz.func207,Tryz.ntmps207;go_wp2_with fail;refine wp_loop_rounds 2 ?_;rw[rounds_succ];go_wp2_with fail;rw[rounds_succ];rcases hcase with h|h
     · have t4:decide ((a:Int)+1 <(s.size:Int))=false:=decide_eq_false (by omega)
       go_wp2_with fail;refine(HN.out _).mono ?_;rintro e w1 ⟨rfl,rfl⟩;go_wp2_with fail;go_ret2;exact⟨by rw[HR.out];rfl,rfl⟩
     · have t4:decide ((a:Int)+1 <(s.size:Int))=true:=decide_eq_true (by omega)
       go_wp2_with fail;refine(HN.out _).mono ?_;rintro e w1 ⟨rfl,rfl⟩;go_wp2_with fail;go_ret2;exact⟨by rw[HR.out];rfl,rfl⟩
   · have hd':q70 c=false:=by simpa using hd
     have hx0:=slc (j:=(a:Int)) (Nat.le_refl a) (by omega) rfl (q119 s a);have hRn:R=(0,-1):=by
      rw[hR];unfold numS;rw[hl];simp only[hd']
      rfl
     obtain⟨m,hm⟩: ∃m,c.toNat=m:=⟨_,rfl⟩;have hn:=q198 hd';rw[hm] at hn;have HR:=hdq hRn;clear hR hRn hd hd' hl;by_cases hlo:m < 48
     · have t1:decide ((48:Int)<=(m:Int))=false:=decide_eq_false (by omega)
       go_enter Tryz.func207,Tryz.ntmps207;go_wp2_with fail;refine wp_loop_rounds 1 ?_;rw[rounds_succ];go_wp2_with fail;refine(num0 _).mono ?_;rintro e w1 ⟨rfl,rfl⟩;go_wp2_with fail;go_ret2;exact⟨by rw[HR.out];rfl,rfl⟩
     · have t1:decide ((48:Int)<=(m:Int))=true:=decide_eq_true (by omega)
       have t2:decide ((m:Int)<=57)=false:=decide_eq_false (by omega);go_enter Tryz.func207,Tryz.ntmps207;go_wp2_with fail;refine wp_loop_rounds 1 ?_;rw[rounds_succ];go_wp2_with fail;refine(num0 _).mono ?_;rintro e w1 ⟨rfl,rfl⟩;go_wp2_with fail;go_ret2;exact⟨by rw[HR.out];rfl,rfl⟩
 · have hRn:R=(0,-1):=by
    rw[hR];unfold numS;rw[q51 s (by omega)]
    rfl
   have hx0:=slc (j:=(a:Int)) (Nat.le_refl a) (by omega) rfl (q119 s a);have t0:decide ((a:Int) <(s.size:Int))=false:=decide_eq_false (by omega);have HR:=hdq hRn;clear hR hRn;go_enter Tryz.func207,Tryz.ntmps207;go_wp2_with fail;refine wp_loop_rounds 1 ?_;rw[rounds_succ];go_wp2_with fail;refine(num0 _).mono ?_;rintro e w1 ⟨rfl,rfl⟩;go_wp2_with fail;go_ret2;exact⟨by rw[HR.out];rfl,rfl⟩
end Go.Proofs.YtdkamgafpphdjaaGreat
