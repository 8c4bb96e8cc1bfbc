/-
  Lemmas towards the law, 13: SpExtract, ExShape, Parse, Tell.
-/
import Derived.Test.YtdkamgafpphdjaaGreatUAL
import Derived.Laws.Strings2
set_option maxHeartbeats 1000000
set_option maxRecDepth 100000
namespace Go.Proofs.YtdkamgafpphdjaaGreat
open Go.RowKit
set_option linter.unusedVariables false
theorem InK.two{w:World}{S:Nat->Prop}{e:TypeId}{t t':Tr}{v0 v1 v2 u0 u1 u2:Value}{g:Nat}(h:InT w S t (.agg #[v0,v1,v2]))(h':InT w S t' (.agg #[u0,u1,u2]))(hg:w.heap[g]? =some (.cells #[v0,v1,v2,u0,u1,u2] e (0,0)))(hS:S g):InK w S (some ⟨g,0,none⟩) [t,t']:=by
 refine .inr ⟨g,0,rfl,hS, ?_⟩;unfold InL;refine⟨⟨v0,v1,v2,y10 hg 0,y10 hg 1,y10 hg 2,h⟩, ?_⟩;unfold InL;refine⟨⟨u0,u1,u2,y10 hg 3,y10 hg 4,y10 hg 5,h'⟩, ?_⟩;unfold InL
 trivial
theorem InT.three{w:World}{S:Nat->Prop}{t:Tr}{u:Value}(h:InT w S t u): ∃k n A l c,u= .agg #[.int .i64 k,.int .i64 n,.slice A l c]:=by
 obtain⟨k,n,ks⟩:=t;obtain⟨A,cap,rfl,_⟩:=InT.mk_iff.1 h;exact⟨k,n,A,_,cap,rfl⟩
theorem j120{g:Sig}: ∀{ts:List Tr} {d:Int},(∀t∈ts,shape g t d=true)->j21 g ts d=true
 | [],_,_=> rfl
 |t::ts,d,h=> by
  simp only[j21,Bool.and_eq_true];exact⟨h t (by simp),j120 (fun x hx=> h x (by simp[hx]))⟩
theorem y200{g:Sig}{k n:Int}{ks:List Tr}{d:Int}(h1:1<=d)(h2:g.ops k=(ks.length:Int))(h3:0<=n)(h4:n<=g.most k)(h5: ∀t∈ks,shape g t (d - 1)=true):shape g (.mk k n ks) d=true:=by
 simp only[shape,j75,Bool.and_eq_true,decide_eq_true_eq];exact⟨h1,⟨h2,q33.2 ⟨h3,h4⟩⟩,j120 h5⟩
theorem y197{g:Sig}{t:Tr}{d:Int}(h:shape g t d=true):1<=d:=by
 obtain⟨k,n,ks⟩:=t;simp only[shape,Bool.and_eq_true,decide_eq_true_eq] at h;exact h.1
theorem q49{g:Sig}: ∀{t:Tr} {d e:Int},shape g t d=true->d<=e->shape g t e=true:=by
 intro t;refine Tr.ind (P:=fun t=> ∀{d e:Int},shape g t d=true->d<=e->shape g t e=true) (fun k n ks ih=> ?_) t;intro d e h hd;obtain⟨h1,h2,h3,h4⟩:=y12 h;have:=y197 h;exact y200 (by omega) h1 h2 h3 (fun t ht=> ih t ht (h4 t ht) (by omega))
theorem y109{c:UInt8}(h:j67 c=true):48<=c.toNat/\c.toNat<=57:=by
 unfold j67 at h;simp[UInt8.le_iff_toNat_le] at h
 exact h
theorem y196{c:UInt8}(h:j67 c=false):c.toNat < 48\/57 < c.toNat:=by
 unfold j67 at h;simp[UInt8.le_iff_toNat_le] at h
 omega
theorem num0(w:World):Calls Tryz.prog 219 #[.string (ofL [])] w fun e w'=> e= .returned (.tuple #[.int .i64 0,.bool false])/\w=w':=by
 have hs:ofL []=({data:=#[]}:ByteArray):=rfl;rw[hs];clear hs;go_enter Tryz.func219,Tryz.ntmps219;go_wp2_with fail;go_ret2;exact⟨rfl,rfl⟩
theorem num1(w:World)(c:UInt8)(hd:j67 c=true):Calls Tryz.prog 219 #[.string (ofL [c])] w fun e w'=> e= .returned (.tuple #[.int .i64 ((c.toNat:Int) - 48),.bool true])/\w=w':=by
 have hs:ofL [c]=({data:=#[c]}:ByteArray):=rfl;obtain⟨h1,h2⟩:=y109 hd;have h0: ∀h,({data:=#[c]}:ByteArray)[0]'h=c:=fun _=> rfl
 obtain⟨m,hm⟩: ∃m,c.toNat=m:=⟨_,rfl⟩;rw[hs];rw[hm] at h1 h2⊢;have t1:((m:Int)==45)=false:=by rw[beq_eq_false_iff_ne];omega
 have t2:decide ((m:Int) < 48)=false:=decide_eq_false (by omega);have t3:decide ((57:Int) <(m:Int))=false:=decide_eq_false (by omega);clear hs hd;obtain⟨b4,t4⟩: ∃b4,((m:Int)==48)=b4:=⟨_,rfl⟩;cases b4
 all_goals
  go_enter Tryz.func219,Tryz.ntmps219;go_wp2_with fail;refine wp_loop_rounds 2 ?_;rw[rounds_succ];go_wp2_with fail;rw[rounds_succ];go_wp2_with fail;go_ret2;exact⟨by simp,rfl⟩
theorem num2(w:World)(c d:UInt8)(hd:j67 c=true)(hd2:j67 d=true)(h48:c≠48):Calls Tryz.prog 219 #[.string (ofL [c,d])] w fun e w'=> e= .returned (.tuple #[.int .i64 (((c.toNat:Int) - 48)*10+((d.toNat:Int) - 48)),.bool true])/\w=w':=by
 have hs:ofL [c,d]=({data:=#[c,d]}:ByteArray):=rfl;obtain⟨h1,h2⟩:=y109 hd;obtain⟨g1,g2⟩:=y109 hd2;have h0: ∀h,({data:=#[c,d]}:ByteArray)[0]'h=c:=fun _=> rfl
 have h0': ∀h,({data:=#[c,d]}:ByteArray)[1]'h=d:=fun _=> rfl
 have hne:c.toNat≠48:=fun h=> h48 (UInt8.toNat_inj.1 h)
 obtain⟨m,hm⟩: ∃m,c.toNat=m:=⟨_,rfl⟩;obtain⟨p,hp⟩: ∃p,d.toNat=p:=⟨_,rfl⟩;rw[hs];rw[hm] at h1 h2 hne⊢;rw[hp] at g1 g2⊢;have t1:((m:Int)==45)=false:=by rw[beq_eq_false_iff_ne];omega
 have t2:decide ((m:Int) < 48)=false:=decide_eq_false (by omega);have t3:decide ((57:Int) <(m:Int))=false:=decide_eq_false (by omega);have t4:((m:Int)==48)=false:=by rw[beq_eq_false_iff_ne];omega
 have t5:decide ((p:Int) < 48)=false:=decide_eq_false (by omega);have t6:decide ((57:Int) <(p:Int))=false:=decide_eq_false (by omega);clear hs hd hd2 h48 hne;go_enter Tryz.func219,Tryz.ntmps219;go_wp2_with fail;refine wp_loop_rounds 3 ?_;rw[rounds_succ];go_wp2_with fail;rw[rounds_succ];go_wp2_with fail;rw[rounds_succ];go_wp2_with fail;go_ret2;exact⟨by simp,rfl⟩
theorem num2z(w:World)(d:UInt8):Calls Tryz.prog 219 #[.string (ofL [48,d])] w fun e w'=> e= .returned (.tuple #[.int .i64 0,.bool false])/\w=w':=by
 have hs:ofL [48,d]=({data:=#[48,d]}:ByteArray):=rfl;have h0: ∀h,({data:=#[48,d]}:ByteArray)[0]'h=48:=fun _=> rfl
 rw[hs];clear hs;go_enter Tryz.func219,Tryz.ntmps219;go_wp2_with fail;go_ret2;exact⟨rfl,rfl⟩
theorem q91(s:ByteArray)(a b:Nat):s.extract a b=ofL ((s.data.toList.drop a).take (b - a)):=by
 apply ByteArray.ext
 apply Array.toList_inj.1
 simp[ofL,ByteArray.data_extract,Array.toList_extract,List.extract]
theorem q69(s:ByteArray){a:Nat}(h:a < s.size):s.data.toList[a]? =some s[a]:=by
 rw[Array.getElem?_toList,Array.getElem?_eq_getElem (by exact h)]
 rfl
theorem j40(s:ByteArray){a:Nat}(h:s.size<=a):s.data.toList[a]? =none:=by
 rw[Array.getElem?_toList,Array.getElem?_eq_none (by exact h)]
theorem y113(s:ByteArray)(a:Nat):s.extract a a=ofL []:=by rw[q91];simp
theorem q198(s:ByteArray){a:Nat}(h:a < s.size):s.extract a (a+1)=ofL [s[a]]:=by
 rw[q91];have hl:a < s.data.toList.length:=by rw[Array.length_toList];exact h
 rw[List.drop_eq_getElem_cons hl,show a+1 - a=0+1 by omega,List.take_succ_cons,List.take_zero]
 rfl
theorem ext_two(s:ByteArray){a:Nat}(h:a < s.size)(h1:a+1 < s.size):s.extract a (a+2)=ofL [s[a],s[a+1]]:=by
 rw[q91];have hl:a < s.data.toList.length:=by rw[Array.length_toList];exact h
 have hl1:a+1 < s.data.toList.length:=by rw[Array.length_toList];exact h1
 rw[List.drop_eq_getElem_cons hl,List.drop_eq_getElem_cons hl1,show a+2 - a=0+1+1 by omega,List.take_succ_cons,List.take_succ_cons,List.take_zero]
 rfl
theorem slc{s:ByteArray}{a e:Nat}{j:Int}{x:ByteArray}(h:a<=e)(h2:e<=s.size)(hj:j=e)(hx:s.extract a e=x)(w:World):(Instr.slice 9 (.string s) (some (.int .i64 a)) (some (.int .i64 j)) none).run Tryz.prog w= .ok (.string x) w:=by
 subst hj;have:=run_slice_string (P:=Tryz.prog) w 9 s .i64 .i64 (a:Int) (e:Int) Tryz.underlying9 (by omega) (by omega) (by omega);rw[this,<-hx]
 rfl
def resN:Option (Int×Nat)->Int×Int
 |some (x,b)=>(x,b)
 |none=>(0,-1)
theorem q140(s:ByteArray)(a:Nat)(w:World)(hs:s.size<=1000000000)(ha:a<=s.size):Calls Tryz.prog 207 #[.string s,.int .i64 a,.int .i64 2] w fun e w'=> e= .returned (.tuple #[.int .i64 (resN (numS s.data.toList a true)).1,.int .i64 (resN (numS s.data.toList a true)).2])/\w=w':=by
 obtain⟨R,hR⟩: ∃R,R=resN (numS s.data.toList a true):=⟨_,rfl⟩;rw[<-hR];by_cases h0:a < s.size
 · obtain⟨c,hc⟩: ∃c,s[a]=c:=⟨_,rfl⟩
   have hl:=q69 s h0;rw[hc] at hl;by_cases hd:j67 c=true
   · obtain⟨g1,g2⟩:=y109 hd
     have hx1':=q198 s h0;rw[hc] at hx1';have hx1:=slc (j:=(a:Int)+1) (Nat.le_succ a) (by omega) rfl hx1';have HX1:=hdq hx1';clear hx1';obtain⟨m,hm⟩: ∃m,c.toNat=m:=⟨_,rfl⟩;have HN:=hdq (fun W=> num1 W c hd);rw[hm] at g1 g2 HN;have t1:decide ((48:Int)<=(m:Int))=true:=decide_eq_true (by omega);have t2:decide ((m:Int)<=57)=true:=decide_eq_true (by omega);have hRu:R=resN (some ((m:Int) - 48,a+1))->R=((m:Int) - 48,(a:Int)+1):=fun h=> by rw[h];simp[resN]
     by_cases h1:a+1 < s.size
     · obtain⟨d,hdd⟩: ∃d,s[a+1]=d:=⟨_,rfl⟩
       have hl1:=q69 s h1;rw[hdd] at hl1;have t4:decide ((a:Int)+1 <(s.size:Int))=true:=decide_eq_true (by omega);have t5:decide ((a:Int)+1 <(a:Int)+2)=true:=decide_eq_true (by omega);by_cases hd1:j67 d=true
       · obtain⟨q1,q2⟩:=y109 hd1
         have hx2':=ext_two s h0 h1;rw[hc,hdd] at hx2';have hx2:=slc (j:=(a:Int)+1+1) (show a<=a+2 by omega) (by omega) (by omega) hx2';obtain⟨p,hp⟩: ∃p,d.toNat=p:=⟨_,rfl⟩;have u1:decide ((48:Int)<=(p:Int))=true:=decide_eq_true (by omega);have u2:decide ((p:Int)<=57)=true:=decide_eq_true (by omega);have t6:decide ((a:Int)+1+1 <(a:Int)+2)=false:=decide_eq_false (by omega);obtain⟨t7,ht7⟩: ∃t7,decide ((a:Int)+1+1 <(s.size:Int))=t7:=⟨_,rfl⟩;by_cases h48:c=48
         · subst h48
           have HN2:=hdq (fun W=> num2z W d);have hRs:R=(0,-1):=by rw[hR];unfold numS;rw[hl];simp only[hd,hl1,hd1];rfl
           have HR:=hdq hRs;clear hR hRs hd hl hRu hl1 hd1 hx2' HN hx1;cases t7
           all_goals
            go_enter Tryz.func207,Tryz.ntmps207;go_wp2_with fail;refine wp_loop_rounds 3 ?_;rw[rounds_succ];go_wp2_with fail;rw[rounds_succ];go_wp2_with fail;rw[rounds_succ];go_wp2_with fail;refine(HN2.out _).mono ?_;rintro e w1 ⟨rfl,rfl⟩;go_wp2_with fail;go_ret2;exact⟨by rw[HR.out];rfl,rfl⟩
         · have HN2:=hdq (fun W=> num2 W c d hd hd1 h48)
           rw[hm,hp] at HN2;have hRs:R=(((m:Int) - 48)*10+((p:Int) - 48),(a:Int)+2):=by rw[hR];unfold numS;rw[hl];simp only[hd,hl1,hd1,h48];rw[hm,hp];simp[resN]
           have HR:=hdq hRs;have HZ:=hdq (show(a:Int)+1+1=a+2 by omega);clear hR hRs hd hl hRu hl1 hd1 hx2' HN hx1 h48;cases t7
           all_goals
            go_enter Tryz.func207,Tryz.ntmps207;go_wp2_with fail;refine wp_loop_rounds 3 ?_;rw[rounds_succ];go_wp2_with fail;rw[rounds_succ];go_wp2_with fail;rw[rounds_succ];go_wp2_with fail;refine(HN2.out _).mono ?_;rintro e w1 ⟨rfl,rfl⟩;go_wp2_with fail;go_ret2;exact⟨by rw[HR.out,<-HZ.out];rfl,rfl⟩
       · have hd1':j67 d=false:=by simpa using hd1
         obtain⟨p,hp⟩: ∃p,d.toNat=p:=⟨_,rfl⟩;have hn:=y196 hd1';rw[hp] at hn;have hRs:R=((m:Int) - 48,(a:Int)+1):=hRu (by rw[hR];unfold numS;rw[hl];simp only[hd,hl1,hd1'];rw[hm];rfl);have HR:=hdq hRs;clear hR hRs hd hl hRu hl1 hd1 hd1';obtain⟨u1,hu1⟩: ∃u1,decide ((48:Int)<=(p:Int))=u1:=⟨_,rfl⟩;have hu2:u1=true->decide ((p:Int)<=57)=false:=fun h=> by rw[h] at hu1;have:=of_decide_eq_true hu1;exact decide_eq_false (by omega)
         cases u1
         · clear hu2
           go_enter Tryz.func207,Tryz.ntmps207;go_wp2_with fail;refine wp_loop_rounds 2 ?_;rw[rounds_succ];go_wp2_with fail;rw[rounds_succ];go_wp2_with fail;refine(HN.out _).mono ?_;rintro e w1 ⟨rfl,rfl⟩;go_wp2_with fail;go_ret2;exact⟨by rw[HR.out];rfl,rfl⟩
         · have u2:=hu2 rfl
           clear hu2;go_enter Tryz.func207,Tryz.ntmps207;go_wp2_with fail;refine wp_loop_rounds 2 ?_;rw[rounds_succ];go_wp2_with fail;rw[rounds_succ];go_wp2_with fail;refine(HN.out _).mono ?_;rintro e w1 ⟨rfl,rfl⟩;go_wp2_with fail;go_ret2;exact⟨by rw[HR.out];rfl,rfl⟩
     · have hRs:R=((m:Int) - 48,(a:Int)+1):=hRu (by rw[hR];unfold numS;rw[hl];simp only[hd,j40 s (show s.size<=a+1 by omega)];rw[hm];rfl)
       have HR:=hdq hRs;have t4:decide ((a:Int)+1 <(s.size:Int))=false:=decide_eq_false (by omega);have t5:decide ((a:Int) <(a:Int)+2)=true:=decide_eq_true (by omega);clear hR hRs hd hl hRu;go_enter Tryz.func207,Tryz.ntmps207;go_wp2_with fail;refine wp_loop_rounds 2 ?_;rw[rounds_succ];go_wp2_with fail;rw[rounds_succ];go_wp2_with fail;refine(HN.out _).mono ?_;rintro e w1 ⟨rfl,rfl⟩;go_wp2_with fail;go_ret2;exact⟨by rw[HR.out];rfl,rfl⟩
   · have hd':j67 c=false:=by simpa using hd
     have hx0:=slc (j:=(a:Int)) (Nat.le_refl a) (by omega) rfl (y113 s a);have hRn:R=(0,-1):=by
      rw[hR];unfold numS;rw[hl];simp only[hd']
      rfl
     obtain⟨m,hm⟩: ∃m,c.toNat=m:=⟨_,rfl⟩;have hn:=y196 hd';rw[hm] at hn;have HR:=hdq hRn;clear hR hRn hd hd' hl;by_cases hlo:m < 48
     · have t1:decide ((48:Int)<=(m:Int))=false:=decide_eq_false (by omega)
       go_enter Tryz.func207,Tryz.ntmps207;go_wp2_with fail;refine wp_loop_rounds 1 ?_;rw[rounds_succ];go_wp2_with fail;refine(num0 _).mono ?_;rintro e w1 ⟨rfl,rfl⟩;go_wp2_with fail;go_ret2;exact⟨by rw[HR.out];rfl,rfl⟩
     · have t1:decide ((48:Int)<=(m:Int))=true:=decide_eq_true (by omega)
       have t2:decide ((m:Int)<=57)=false:=decide_eq_false (by omega);go_enter Tryz.func207,Tryz.ntmps207;go_wp2_with fail;refine wp_loop_rounds 1 ?_;rw[rounds_succ];go_wp2_with fail;refine(num0 _).mono ?_;rintro e w1 ⟨rfl,rfl⟩;go_wp2_with fail;go_ret2;exact⟨by rw[HR.out];rfl,rfl⟩
 · have hRn:R=(0,-1):=by
    rw[hR];unfold numS;rw[j40 s (by omega)]
    rfl
   have hx0:=slc (j:=(a:Int)) (Nat.le_refl a) (by omega) rfl (y113 s a);have t0:decide ((a:Int) <(s.size:Int))=false:=decide_eq_false (by omega);have HR:=hdq hRn;clear hR hRn;go_enter Tryz.func207,Tryz.ntmps207;go_wp2_with fail;refine wp_loop_rounds 1 ?_;rw[rounds_succ];go_wp2_with fail;refine(num0 _).mono ?_;rintro e w1 ⟨rfl,rfl⟩;go_wp2_with fail;go_ret2;exact⟨by rw[HR.out];rfl,rfl⟩
theorem q132(s:ByteArray)(a:Nat)(w:World)(hs:s.size<=1000000000)(ha:a<=s.size):Calls Tryz.prog 207 #[.string s,.int .i64 a,.int .i64 1] w fun e w'=> e= .returned (.tuple #[.int .i64 (resN (numS s.data.toList a false)).1,.int .i64 (resN (numS s.data.toList a false)).2])/\w=w':=by
 obtain⟨R,hR⟩: ∃R,R=resN (numS s.data.toList a false):=⟨_,rfl⟩;rw[<-hR];by_cases h0:a < s.size
 · obtain⟨c,hc⟩: ∃c,s[a]=c:=⟨_,rfl⟩
   have hl:=q69 s h0;rw[hc] at hl;by_cases hd:j67 c=true
   · obtain⟨g1,g2⟩:=y109 hd
     have hx1':=q198 s h0;rw[hc] at hx1';have hx1:=slc (j:=(a:Int)+1) (Nat.le_succ a) (by omega) rfl hx1';have HX1:=hdq hx1';clear hx1';obtain⟨m,hm⟩: ∃m,c.toNat=m:=⟨_,rfl⟩;have HN:=hdq (fun W=> num1 W c hd);rw[hm] at g1 g2 HN;have t1:decide ((48:Int)<=(m:Int))=true:=decide_eq_true (by omega);have t2:decide ((m:Int)<=57)=true:=decide_eq_true (by omega);have hRu:R=resN (some ((m:Int) - 48,a+1))->R=((m:Int) - 48,(a:Int)+1):=fun h=> by rw[h];simp[resN]
     have hRs:R=((m:Int) - 48,(a:Int)+1):=hRu (by rw[hR];unfold numS;rw[hl];simp only[hd];rw[hm];rfl);have HR:=hdq hRs;have t3:decide ((a:Int)+1 <(a:Int)+1)=false:=decide_eq_false (by omega);clear hR hRs hd hl hRu;have hcase:s.size=a+1\/a+1 < s.size:=by omega
     go_enter Tryz.func207,Tryz.ntmps207;go_wp2_with fail;refine wp_loop_rounds 2 ?_;rw[rounds_succ];go_wp2_with fail;rw[rounds_succ];rcases hcase with h|h
     · have t4:decide ((a:Int)+1 <(s.size:Int))=false:=decide_eq_false (by omega)
       go_wp2_with fail;refine(HN.out _).mono ?_;rintro e w1 ⟨rfl,rfl⟩;go_wp2_with fail;go_ret2;exact⟨by rw[HR.out];rfl,rfl⟩
     · have t4:decide ((a:Int)+1 <(s.size:Int))=true:=decide_eq_true (by omega)
       go_wp2_with fail;refine(HN.out _).mono ?_;rintro e w1 ⟨rfl,rfl⟩;go_wp2_with fail;go_ret2;exact⟨by rw[HR.out];rfl,rfl⟩
   · have hd':j67 c=false:=by simpa using hd
     have hx0:=slc (j:=(a:Int)) (Nat.le_refl a) (by omega) rfl (y113 s a);have hRn:R=(0,-1):=by
      rw[hR];unfold numS;rw[hl];simp only[hd']
      rfl
     obtain⟨m,hm⟩: ∃m,c.toNat=m:=⟨_,rfl⟩;have hn:=y196 hd';rw[hm] at hn;have HR:=hdq hRn;clear hR hRn hd hd' hl;by_cases hlo:m < 48
     · have t1:decide ((48:Int)<=(m:Int))=false:=decide_eq_false (by omega)
       go_enter Tryz.func207,Tryz.ntmps207;go_wp2_with fail;refine wp_loop_rounds 1 ?_;rw[rounds_succ];go_wp2_with fail;refine(num0 _).mono ?_;rintro e w1 ⟨rfl,rfl⟩;go_wp2_with fail;go_ret2;exact⟨by rw[HR.out];rfl,rfl⟩
     · have t1:decide ((48:Int)<=(m:Int))=true:=decide_eq_true (by omega)
       have t2:decide ((m:Int)<=57)=false:=decide_eq_false (by omega);go_enter Tryz.func207,Tryz.ntmps207;go_wp2_with fail;refine wp_loop_rounds 1 ?_;rw[rounds_succ];go_wp2_with fail;refine(num0 _).mono ?_;rintro e w1 ⟨rfl,rfl⟩;go_wp2_with fail;go_ret2;exact⟨by rw[HR.out];rfl,rfl⟩
 · have hRn:R=(0,-1):=by
    rw[hR];unfold numS;rw[j40 s (by omega)]
    rfl
   have hx0:=slc (j:=(a:Int)) (Nat.le_refl a) (by omega) rfl (y113 s a);have t0:decide ((a:Int) <(s.size:Int))=false:=decide_eq_false (by omega);have HR:=hdq hRn;clear hR hRn;go_enter Tryz.func207,Tryz.ntmps207;go_wp2_with fail;refine wp_loop_rounds 1 ?_;rw[rounds_succ];go_wp2_with fail;refine(num0 _).mono ?_;rintro e w1 ⟨rfl,rfl⟩;go_wp2_with fail;go_ret2;exact⟨by rw[HR.out];rfl,rfl⟩
theorem q117: ∀{k:Int} {ts:List Tr} {i j:Nat} {b x:Int} (h:j < ts.length),x∈fvs ts[j] (b+und k (i+j))->x∈fvss k ts i b
 |k,t::ts,i,0,b,x,h,hx=> by unfold fvss;exact List.mem_append.2 (.inl hx)
 |k,t::ts,i,j+1,b,x,h,hx=> by
  unfold fvss;refine List.mem_append.2 (.inr (q117 (j:=j) (by simpa using h) ?_));rw[show i+1+j=i+(j+1) by omega];exact hx
def q187(a:World)(p1:Nat)(L:List Nat){σ:Type}(Inv:World->σ->Prop)(f:σ->Int->σ)(p:Int->Prop):Prop:=
 ∀(w:World) (s:σ) (i:Int),Ext a w->Inv w s->p i->Calls Tryz.prog 155 #[.int .i64 i,.pointer (some ⟨p1,0,none⟩)] w fun e w'=> e= .returned (.tuple #[])/\Only L w w'/\Inv w' (f s i)
def y217(t:Tr):Prop:= ∀(a w:World) (v:Value) (b d:Int) (p1:Nat) (L:List Nat) (σ:Type) (Inv:World->σ->Prop) (f:σ->Int->σ) (p:Int->Prop) (s:σ),
 shape sigT t d=true->Lies a t v->Ext a w->(∀x,x∈L->a.heap.size<=x/\x < w.heap.size)->0<=b->b+cnt t<=1000000->
 q187 a p1 L Inv f p->(∀i,i∈fvs t b->p i)->(∀w1 w2 s,Inv w1 s->Ext w1 w2->Inv w2 s)->Inv w s->
 Calls Tryz.prog 154 #[v,.int .i64 b,.func (.func 155) #[] #[.pointer (some ⟨p1,0,none⟩)]] w fun e w'=> e= .returned (.tuple #[])/\Only L w w'/\Inv w' ((fvs t b).foldl f s)
theorem q138: ∀t:Tr,y217 t:=Tr.ind fun k n ks hk=> by
 intro a w v b d p1 L σ Inv f p s hsh hin ha hL hb0 hb1 hT hp hst hI;obtain⟨A,cap,rfl,hl,hc,hK⟩:=Lies.mk_iff.1 hin;obtain⟨-,hn0,hn1,hsk⟩:=y12 hsh;have hlc:=j16 ks;have hcc:=hc;unfold maxLen at hcc;simp only[cnt] at hb1;have hmost:=q68 k;obtain⟨b1,d1⟩: ∃b1,(k==1)=b1:=⟨_,rfl⟩;obtain⟨b2,d2⟩: ∃b2,decide (b<=n)=b2:=⟨_,rfl⟩;have hfv:fvs (.mk k n ks) b=(if(b1 && b2)=true then [n - b] else [])++fvss k ks 0 b:=by
  conv=> lhs;unfold fvs
  rw[<-d1,<-d2];simp
 have hpk: ∀i,i∈fvss k ks 0 b->p i:=fun i hi=> hp i (by rw[hfv];exact List.mem_append.2 (.inr hi))
 have hst':=hst;have hwl: ∀x,x∈L->x≠w.heap.size:=fun x hx e=> by have:=(hL x hx).2;omega
 have hE0:Ext w (w.alloc (.cells #[.int .i64 k,.int .i64 n,.slice A ks.length cap] 25)):=(xr w).alloc _;have hB0:=heap_alloc_new w (.cells #[.int .i64 k,.int .i64 n,.slice A ks.length cap] 25);have hS0:(w.alloc (.cells #[.int .i64 k,.int .i64 n,.slice A ks.length cap] 25)).heap.size=w.heap.size+1:=by simp
 have HTell:b1=true->b2=true->Calls Tryz.prog 155 #[.int .i64 (n - b),.pointer (some ⟨p1,0,none⟩)] (w.alloc (.cells #[.int .i64 k,.int .i64 n,.slice A ks.length cap] 25)) fun e w'=> e= .returned (.tuple #[])/\Only L (w.alloc (.cells #[.int .i64 k,.int .i64 n,.slice A ks.length cap] 25)) w'/\Inv w' (f s (n - b)):=fun h1 h2=>
  hT _ s _ (ha.trans hE0) (hst _ _ _ hI hE0) (hp _ (by rw[hfv,h1,h2];simp))
 have hIa:=hst _ _ _ hI hE0;have hTx: ∀s1,(if(b1 && b2)=true then f s (n - b) else s)=s1->(fvs (.mk k n ks) b).foldl f s=(fvss k ks 0 b).foldl f s1:=fun s1 h=> by
  rw[hfv,<-h,List.foldl_append]
  split <;> rfl
 have HTL:=hdq HTell;have HTX:=hdq hTx;have hWL:=hdq hwl;clear HTell hTx hfv hp hwl;cases b1 <;> cases b2
 case true.true=>
  have HTL':=hdq (HTL.out rfl rfl);clear HTL;go_enter Tryz.func154,Tryz.ntmps154;go_wp2_with fail;refine HTL'.out.mono ?_;rintro e w1 ⟨rfl,ho1,hI1⟩;have hTot:=HTX.out _ rfl;clear HTL';have HTot:=hdq (show(fvs (.mk k n ks) b).foldl f s=(fvss k ks 0 b).foldl f (f s (n - b)) from hTot);clear hTot;have hB1:w1.heap[w.heap.size]? =some (.cells #[.int .i64 k,.int .i64 n,.slice A ks.length cap] 25 (0,0)):=(ho1.block _ (by rw[hS0];omega) (fun h=> hWL.out _ h rfl)).trans hB0;have ha1:Ext a w1:=ho1.ext (ha.trans hE0) (fun x hx=>(hL x hx).1);have hO:Only L w w1:=(oE hE0).trans ho1;have hsz1:w.heap.size < w1.heap.size:=q10 hB1;clear ho1 hB0 hS0 hE0 hIa;obtain⟨x0,x1,x2,-,-,-⟩:=own3 hB1;go_wp2_with fail;clear x0 x1 x2
  go_loopw [26] (fun i wr=> ∃(j:Nat) (s2:σ),j<=ks.length/\i= .int .i64 j/\Inv wr s2/\(fvss k ks 0 b).foldl f (f s (n - b))=(fvss k (ks.drop j) j b).foldl f s2/\Only L w1 wr) (fun i _=> ks.length -(intOf i).toNat)
  case atStart=> exact⟨0,(f s (n - b)),Nat.zero_le _,rfl,hI1,rfl,Only.refl _ _⟩
  case round=>
   obtain⟨j,s2,hj,rfl,hI2,heq,ho⟩:=hrel;have HE:=hdq heq;clear heq;have har:Ext a wr:=ho.ext ha1 (fun x hx=>(hL x hx).1);have hBr:=(ho.block _ hsz1 (fun h=> hWL.out _ h rfl)).trans hB1;obtain⟨x0,x1,x2,-,-,-⟩:=own3 hBr;have hub:=j44 k j;by_cases hlt:j < ks.length
   · obtain⟨b',o,k',n',A',cap',kids,rfl,HK,c0,c1,c2,hkl,hkc,hK',hin',hmem⟩:=hK.get har hlt
     have hst:(fvss k (ks.drop j) j b).foldl f s2=(fvss k (ks.drop (j+1)) (j+1) b).foldl f ((fvs (.mk k' n' kids) (b+und k j)).foldl f s2):=by
      rw[List.drop_eq_getElem_cons hlt,HK.out];conv=> lhs;unfold fvss
      rw[List.foldl_append]
     have HR:=hdq (hk _ hmem a);have hpk': ∀i,i∈fvs (.mk k' n' kids) (b+und k j)->p i:=fun i hi=> hpk i (by
      rw[<-HK.out] at hi;exact q117 hlt (by rw[Nat.zero_add];exact hi))
     have hcm:=y14 hmem;have hsk':=hsk _ hmem;have hj':(j:Int) <(ks.length:Int):=by omega
     obtain⟨u,hu⟩: ∃u,u=und k j:=⟨_,rfl⟩;have HU:=hdq (fun W=> j51 k j W);rw[<-hu] at HU hub hst hpk';have HT:=hdq hst;have HWR:=hdq (IntWalk.i64_in (b+u) ⟨by omega,by omega⟩);clear hu hst;have hinA:Lies a (.mk k' n' kids) (.agg #[.int .i64 k',.int .i64 n',.slice A' kids.length cap']):=by
      obtain⟨b2,o2,k2,n2,A2,cap2,kids2,h1,h2,e0,e1,e2,h6,h7,h8,h9,h10⟩:=hK.get (xr a) hlt;obtain⟨rfl,rfl⟩:b'=b2/\o=o2:=by cases h1;exact⟨rfl,rfl⟩
      have e3:=(har.cell e0).symm.trans c0;have e4:=(har.cell e1).symm.trans c1;have e5:=(har.cell e2).symm.trans c2;have e6:=h2.out.symm.trans HK.out;cases e3;cases e4;cases e6;cases e5
      exact h9
     go_wp2_with fail;have hx:=(xr wr).alloc (.cells #[.int .i64 k',.int .i64 n',.slice A' kids.length cap'] 25);have hb5:=heap_alloc_new wr (.cells #[.int .i64 k',.int .i64 n',.slice A' kids.length cap'] 25);obtain⟨w5,hw5⟩: ∃w5,w5=wr.alloc (.cells #[.int .i64 k',.int .i64 n',.slice A' kids.length cap'] 25):=⟨_,rfl⟩;rw[<-hw5] at hx hb5⊢;clear hw5;have hsr:w.heap.size < wr.heap.size:=q10 hBr;have hLr: ∀x,x∈L->x≠w.heap.size/\x≠wr.heap.size:=fun x hx=>⟨hWL.out x hx,by have:=(hL x hx).2;omega⟩
     have hB5:=hx.blk hBr;have hs5:wr.heap.size < w5.heap.size:=q10 hb5;have HC:=hdq (show∀w',Only L w5 w'->w'.cell? ⟨w.heap.size,0,none⟩=some (.int .i64 k)/\w'.cell? ⟨wr.heap.size,0,none⟩=some (.int .i64 k')/\w'.cell? ⟨wr.heap.size,1,none⟩=some (.int .i64 n')/\w'.cell? ⟨wr.heap.size,2,none⟩=some (.slice A' kids.length cap') from fun w' hw'=> by
      obtain⟨p0,-,-,-,-,-⟩:=own3 ((hw'.block w.heap.size (by omega) (fun h=>(hLr _ h).1 rfl)).trans hB5);obtain⟨q0,q1,q2,-,-,-⟩:=own3 ((hw'.block wr.heap.size (by omega) (fun h=>(hLr _ h).2 rfl)).trans hb5);exact⟨p0,q0,q1,q2⟩)
     obtain⟨y0,z0,z1,z2⟩:=HC.out w5 (Only.refl _ _);have ha5:=har.trans hx;have hI5:=hst' _ _ _ hI2 hx;have HF:=hdq (fun W (hW:Ext w5 W)=> HR.out W _ (b+u) _ p1 L σ Inv f p s2 hsk' hinA (ha5.trans hW) (fun x hx=>⟨(hL x hx).1,by have:=(hL x hx).2;have:=hW.size;omega⟩) (by omega) (by omega) hT hpk' hst' (hst' _ _ _ hI5 hW));have hO5:Only L w1 w5:=ho.trans (oE hx);have HSK:=hdq hsk;have HL0:=hdq hL;have HST:=hdq hst';have HTT:=hdq hT;have HPK:=hdq hpk;clear hsk hL hst' hst hT hpk hLr hsk' hk hinA;clear c0 c1 c2 x0 x1 x2 hb5 hBr HR hpk' hK' hin' hB5 hI2 ho har hx hI5
     go_region_held3 (fun w'=> w'.cell? ⟨w.heap.size,0,none⟩=some (.int .i64 k)/\w'.cell? ⟨wr.heap.size,0,none⟩=some (.int .i64 k')/\w'.cell? ⟨wr.heap.size,1,none⟩=some (.int .i64 n')/\w'.cell? ⟨wr.heap.size,2,none⟩=some (.slice A' kids.length cap'))
      (first|exact HC.out _ ho6|exact HC.out _ (oE (xr w5).drew))
      (first|(go_at_call 117;refine(HU.out _).mono ?_;rintro e w6 ⟨rfl,rfl⟩) |(go_at_call 154;rw[HWR.out];refine(HF.out _ (xr w5).drew).mono ?_;rintro e w6 ⟨rfl,ho6',hI6⟩;have ho6:Only L w5 w6:=(oE (xr w5).drew).trans ho6'))
     go_wp2_with fail
     go_roundw
     case rel=> exact⟨j+1,_,by omega,by go_num,hI6,by rw[HE.out,HT.out],hO5.trans ho6⟩
     case measure=> simp[intOf];omega
   · go_wp2_with fail
     go_end0
     rw[List.drop_of_length_le (by omega)] at HE;exact⟨rfl,hO.trans ho,by rw[HTot.out,HE.out];exact hI2⟩
 all_goals(
  clear HTL;go_enter Tryz.func154,Tryz.ntmps154;go_wp2_with fail;have hTot:=HTX.out _ rfl;generalize w.alloc _=w1 at hIa hB0 hE0 hS0;have ho1:=Only.refl L w1;have hI1:=hIa;have HTot:=hdq (show(fvs (.mk k n ks) b).foldl f s=(fvss k ks 0 b).foldl f s from hTot);clear hTot;have hB1:w1.heap[w.heap.size]? =some (.cells #[.int .i64 k,.int .i64 n,.slice A ks.length cap] 25 (0,0)):=(ho1.block _ (by rw[hS0];omega) (fun h=> hWL.out _ h rfl)).trans hB0;have ha1:Ext a w1:=ho1.ext (ha.trans hE0) (fun x hx=>(hL x hx).1);have hO:Only L w w1:=(oE hE0).trans ho1;have hsz1:w.heap.size < w1.heap.size:=q10 hB1;clear ho1 hB0 hS0 hE0 hIa
  go_loopw [26] (fun i wr=> ∃(j:Nat) (s2:σ),j<=ks.length/\i= .int .i64 j/\Inv wr s2/\(fvss k ks 0 b).foldl f s=(fvss k (ks.drop j) j b).foldl f s2/\Only L w1 wr) (fun i _=> ks.length -(intOf i).toNat)
  case atStart=> exact⟨0,s,Nat.zero_le _,rfl,hI1,rfl,Only.refl _ _⟩
  case round=>
   obtain⟨j,s2,hj,rfl,hI2,heq,ho⟩:=hrel;have HE:=hdq heq;clear heq;have har:Ext a wr:=ho.ext ha1 (fun x hx=>(hL x hx).1);have hBr:=(ho.block _ hsz1 (fun h=> hWL.out _ h rfl)).trans hB1;obtain⟨x0,x1,x2,-,-,-⟩:=own3 hBr;have hub:=j44 k j;by_cases hlt:j < ks.length
   · obtain⟨b',o,k',n',A',cap',kids,rfl,HK,c0,c1,c2,hkl,hkc,hK',hin',hmem⟩:=hK.get har hlt
     have hst:(fvss k (ks.drop j) j b).foldl f s2=(fvss k (ks.drop (j+1)) (j+1) b).foldl f ((fvs (.mk k' n' kids) (b+und k j)).foldl f s2):=by
      rw[List.drop_eq_getElem_cons hlt,HK.out];conv=> lhs;unfold fvss
      rw[List.foldl_append]
     have HR:=hdq (hk _ hmem a);have hpk': ∀i,i∈fvs (.mk k' n' kids) (b+und k j)->p i:=fun i hi=> hpk i (by
      rw[<-HK.out] at hi;exact q117 hlt (by rw[Nat.zero_add];exact hi))
     have hcm:=y14 hmem;have hsk':=hsk _ hmem;have hj':(j:Int) <(ks.length:Int):=by omega
     obtain⟨u,hu⟩: ∃u,u=und k j:=⟨_,rfl⟩;have HU:=hdq (fun W=> j51 k j W);rw[<-hu] at HU hub hst hpk';have HT:=hdq hst;have HWR:=hdq (IntWalk.i64_in (b+u) ⟨by omega,by omega⟩);clear hu hst;have hinA:Lies a (.mk k' n' kids) (.agg #[.int .i64 k',.int .i64 n',.slice A' kids.length cap']):=by
      obtain⟨b2,o2,k2,n2,A2,cap2,kids2,h1,h2,e0,e1,e2,h6,h7,h8,h9,h10⟩:=hK.get (xr a) hlt;obtain⟨rfl,rfl⟩:b'=b2/\o=o2:=by cases h1;exact⟨rfl,rfl⟩
      have e3:=(har.cell e0).symm.trans c0;have e4:=(har.cell e1).symm.trans c1;have e5:=(har.cell e2).symm.trans c2;have e6:=h2.out.symm.trans HK.out;cases e3;cases e4;cases e6;cases e5
      exact h9
     go_wp2_with fail;have hx:=(xr wr).alloc (.cells #[.int .i64 k',.int .i64 n',.slice A' kids.length cap'] 25);have hb5:=heap_alloc_new wr (.cells #[.int .i64 k',.int .i64 n',.slice A' kids.length cap'] 25);obtain⟨w5,hw5⟩: ∃w5,w5=wr.alloc (.cells #[.int .i64 k',.int .i64 n',.slice A' kids.length cap'] 25):=⟨_,rfl⟩;rw[<-hw5] at hx hb5⊢;clear hw5;have hsr:w.heap.size < wr.heap.size:=q10 hBr;have hLr: ∀x,x∈L->x≠w.heap.size/\x≠wr.heap.size:=fun x hx=>⟨hWL.out x hx,by have:=(hL x hx).2;omega⟩
     have hB5:=hx.blk hBr;have hs5:wr.heap.size < w5.heap.size:=q10 hb5;have HC:=hdq (show∀w',Only L w5 w'->w'.cell? ⟨w.heap.size,0,none⟩=some (.int .i64 k)/\w'.cell? ⟨wr.heap.size,0,none⟩=some (.int .i64 k')/\w'.cell? ⟨wr.heap.size,1,none⟩=some (.int .i64 n')/\w'.cell? ⟨wr.heap.size,2,none⟩=some (.slice A' kids.length cap') from fun w' hw'=> by
      obtain⟨p0,-,-,-,-,-⟩:=own3 ((hw'.block w.heap.size (by omega) (fun h=>(hLr _ h).1 rfl)).trans hB5);obtain⟨q0,q1,q2,-,-,-⟩:=own3 ((hw'.block wr.heap.size (by omega) (fun h=>(hLr _ h).2 rfl)).trans hb5);exact⟨p0,q0,q1,q2⟩)
     obtain⟨y0,z0,z1,z2⟩:=HC.out w5 (Only.refl _ _);have ha5:=har.trans hx;have hI5:=hst' _ _ _ hI2 hx;have HF:=hdq (fun W (hW:Ext w5 W)=> HR.out W _ (b+u) _ p1 L σ Inv f p s2 hsk' hinA (ha5.trans hW) (fun x hx=>⟨(hL x hx).1,by have:=(hL x hx).2;have:=hW.size;omega⟩) (by omega) (by omega) hT hpk' hst' (hst' _ _ _ hI5 hW));have hO5:Only L w1 w5:=ho.trans (oE hx);have HSK:=hdq hsk;have HL0:=hdq hL;have HST:=hdq hst';have HTT:=hdq hT;have HPK:=hdq hpk;clear hsk hL hst' hst hT hpk hLr hsk' hk hinA;clear c0 c1 c2 x0 x1 x2 hb5 hBr HR hpk' hK' hin' hB5 hI2 ho har hx hI5
     go_region_held3 (fun w'=> w'.cell? ⟨w.heap.size,0,none⟩=some (.int .i64 k)/\w'.cell? ⟨wr.heap.size,0,none⟩=some (.int .i64 k')/\w'.cell? ⟨wr.heap.size,1,none⟩=some (.int .i64 n')/\w'.cell? ⟨wr.heap.size,2,none⟩=some (.slice A' kids.length cap'))
      (first|exact HC.out _ ho6|exact HC.out _ (oE (xr w5).drew))
      (first|(go_at_call 117;refine(HU.out _).mono ?_;rintro e w6 ⟨rfl,rfl⟩) |(go_at_call 154;rw[HWR.out];refine(HF.out _ (xr w5).drew).mono ?_;rintro e w6 ⟨rfl,ho6',hI6⟩;have ho6:Only L w5 w6:=(oE (xr w5).drew).trans ho6'))
     go_wp2_with fail
     go_roundw
     case rel=> exact⟨j+1,_,by omega,by go_num,hI6,by rw[HE.out,HT.out],hO5.trans ho6⟩
     case measure=> simp[intOf];omega
   · go_wp2_with fail
     go_end0
     rw[List.drop_of_length_le (by omega)] at HE;exact⟨rfl,hO.trans ho,by rw[HTot.out,HE.out];exact hI2⟩)
def MxI(p1:Nat)(w:World)(s:Int):Prop:=w.heap[p1]? =some (.cells #[.int .i64 s] 3 (0,0))/\0<=s/\s<=21
theorem j215(a:World)(p1:Nat):q187 a p1 [p1] (MxI p1) (fun s i=> max s (i+1)) (fun i=> 0<=i/\i<=20):=by
 intro w s i ha hI hi;obtain⟨hb,h0,h1⟩:=hI;have c0:=y10 hb 0;have f0:=q12 hb 0;have hB:=hdq hb;clear hb;go_enter Tryz.func155,Tryz.ntmps155;go_wp2_with fail
 all_goals go_end0
 all_goals exact⟨rfl,(Only.refl _ _).setCell (by simp) _,q11 hB.out 0 _|>.trans (by simp;omega),by omega,by omega⟩
theorem q65(t:Tr)(w:World)(v:Value)(hin:Lies w t v)(hv:valid sigT t=true):Calls Tryz.prog 103 #[v] w fun e w'=> e= .returned (.int .i64 (mxf t 0))/\Ext w w':=by
 obtain⟨h1,h2⟩:=j11 hv;have hF:=fun W (hW:Ext w W) p1 (hp:w.heap.size<=p1) (hb:W.heap[p1]? =some (.cells #[.int .i64 0] 3 (0,0)))=>
  q138 t w W v 0 30 p1 [p1] Int (MxI p1) (fun s i=> max s (i+1)) (fun i=> 0<=i/\i<=20) 0 h1 hin hW (fun x hx=> by rw[List.mem_singleton.1 hx];exact⟨hp,q10 hb⟩) (by omega) (by omega)
   (j215 w p1) (fun i hi=> by have:=j190 t 0 30 i h1 (by omega) hi;omega) (fun w1 w2 s hs he=>⟨he.blk hs.1,hs.2⟩) ⟨hb,by omega,by omega⟩
 have hm:=j148 t 0 0 (by omega);have hn:=q63 t 0;rw[hm,Int.max_eq_right hn] at hF;have HF:=hdq hF;clear hm hn h1 h2 hv hF;obtain⟨k,n,ks⟩:=t;obtain⟨A,cap,rfl,hl,hc,hK⟩:=Lies.mk_iff.1 hin;generalize mxf (.mk k n ks) 0=m at HF;go_enter Tryz.func103,Tryz.ntmps103;go_wp2_with fail;have hE:=((xr w).alloc (.cells #[.int .i64 k,.int .i64 n,.slice A ks.length cap] 25)).alloc (.cells #[.int .i64 0] 3);obtain⟨hb1,hb2,hsz⟩:=blk2 (xr ((w.alloc (.cells #[.int .i64 k,.int .i64 n,.slice A ks.length cap] 25)).alloc (.cells #[.int .i64 0] 3)));refine(HF.out _ hE (w.heap.size+1) (by omega) hb2).mono ?_;rintro e w1 ⟨rfl,ho,hI⟩;have hc1:=y10 hI.1 0;have hE1:=ho.ext hE (fun x hx=> by rw[List.mem_singleton.1 hx];omega);clear hb1 hb2 HF;go_wp2_with fail;go_ret;exact⟨rfl,hE1⟩
end Go.Proofs.YtdkamgafpphdjaaGreat
