/-
  The laws: small types,small systems; right types,one conforms to another. Conditions: what is read.
  What the arguments of the laws read as: types,systems of generic classes,formals,reasons. No condition.
  KindFormals. Conditions: what is read.
-/
import Derived.Test.YtaohbfnepjjdgaaGreatM22
import Derived.Test.YtaohbfnepjjdgaaGreatM12
import Derived.Test.YtaohbfnepjjdgaaGreatM13
import Derived.Test.YtaohbfnepjjdgaaGreatM24
set_option linter.unusedVariables false
set_option linter.unusedSimpArgs false
namespace Go.Hr
open Go Go.RowKit Go.Ck Go.Proofs Go.Proofs.YtaohbfnepjjdgaaGreat Fx
attribute [local irreducible] Go.Ck.Sub St Cd Xt Nx DrL LsW
section
variable {S T N R:Res} {v:Value} {F:List Fm} {A:List Kt} {l:KS} {s t:Kt} {ts:List Kt} {all:List (Nm×Own)} {x:KC}
theorem reads_star {P:Program} {k:FuncId} {args:Array Value} {L:SH} {v:Value} (h:Reads P k args [Res.star L] v):Reads P k args L v:=fun hr w hh=>(h hr w (holds_star1.2 hh)).mono fun _ _ ⟨u,h',he,⟨hu,hT⟩,hH,hS⟩=>⟨u,L,he,⟨hu,rfl⟩,by subst hT; exact holds_star1.1 hH,hS⟩
theorem count_go {b : Nat} : ∀ (D : Nat) (t : Kt) (y : Value) (n deep : Int), t.depth ≤ D → Tys S y t.args → 0 ≤ n → n ≤ 200 → 0 ≤ deep → deep ≤ 61 →
  Ct Tryz.prog 45 #[.agg (tyC t y).toArray,.int .i64 deep,.pointer (some ⟨b,0,none⟩)] [pt b (cl [.int .i64 n] 3),S] fun u h'=>∃ ok n',u = .bool ok∧h'=[pt b (cl [.int .i64 n'] 3),S]∧0≤n'∧n'≤201∧(ok=true→n'=n+(t.parts:Nat)∧n'≤200∧((t.depth:Nat):Int)+deep≤61):=by
 intro D
 induction D with
 | zero=>intro t y n deep hd; cases t; simp [Kt.depth] at hd
 | succ D ih =>
  intro t y n deep hd hy hn0 hn hd0 hd1
  have hml:maxLen=9223372036854775807:=rfl
  have hF:∀ a∈t.args,∀ y (n deep:Int),Tys S y a.args→0≤n→n≤200→0≤deep→deep≤61→_:=fun a ha y n deep=>ih a y n deep (by have:=depth_args ha; omega)
  clear ih
  obtain ⟨xa,xc,rfl,hlc,hcm,_⟩:=hy.form
  unfold tyC
  refine ct_of (n:=45) Tryz.func45 Z Z (len Z) fun hr w0=>?_
  refine cQ (st_bx Z Z fun b3=>?_)
  refine sA Z (sK [1,2,3,6] Z (cQ (sM Z (sM Z (sV (vN Z) (sV (vY Z ld3) ?_))))))
  refine sV (v_add Z Z (by unfold I64 at *; omega)) (sV (vN Z) (st_sto Z Z sz3 ?_))
  refine sK [1,2,3,6] Z (cS (cQ (sM Z (sV (vN Z) (sV (vY Z ld3) ?_)))))
  refine sV (v_gtr Z Z) (sM Z (st_cut (k:=8) (d:=21) (v:=.bool (decide (200<n+1) || decide (60<deep))) (fun hcut=>bool_want (b:=decide (200<n+1)) false (fun hg=>?_) (fun hg=>?_)) ?_))
  ·refine st_sk Z Z hg ?_
   refine st_sk Z Z hg ?_
   refine sV (vQ (bO Z hg) Z) ?_
   exact hcut _ uG
  ·refine sG Z (bG Z hg) (vM Z) (sG Z (bG Z hg) (v_gtr Z Z) (sV (vP (bO Z hg) Z) ?_))
   exact hcut _ uG
  refine sM Z (st_cut (k:=14) (d:=27) (v:=.bool ((decide (200<n+1) || decide (60<deep)) || decide (60<(t.args.length:Int)))) (fun hcut=>bool_want (b:=(decide (200<n+1) || decide (60<deep))) false (fun hg=>?_) (fun hg=>?_)) ?_)
  ·refine st_sk Z Z hg ?_
   iterate 3 refine st_sk rfl rfl hg ?_
   refine sV (vQ (bO Z hg) Z) ?_
   exact hcut _ uG
  ·refine sG Z (bG Z hg) (vF Z fa25_2 Z) (sG Z (bG Z hg) (vY Z ld23) ?_)
   refine sG Z (bG Z hg) (v_len Z Tryz.underlying23) (sG Z (bG Z hg) (v_gtr Z Z) (sV (vP (bO Z hg) Z) ?_))
   exact hcut _ uG
  refine sK [1,2,3,6,27] Z (cC Z (fun hq=>?_) (fun hq=>?_))
  ·refine cQ (sA Z (sK [6] Z (cT (xR ?_))))
   exact xt_rt rfl ⟨false,n+1,rfl,rfl,by omega,by omega,fun h=>by cases h⟩ sbq
  ·have hq:((decide (200<n+1) || decide (60<deep)) || decide (60<(t.args.length:Int)))=false:=hq
   simp only [Bool.or_eq_false_iff,decide_eq_false_iff_not] at hq
   have hdd:=depth_eq (s:=t)
   have hpp:=parts_eq (s:=t)
   refine cK (xT (cS (cQ (sA Z (sK [1,2,3,6,7] Z (cB (cd_lq (σ := Int×Nat) (fun q=>[(1,.int .i64 deep),(2,.pointer (some ⟨b,0,none⟩)),(3,.pointer (some ⟨b3,0,none⟩)),(7,.int .i64 (q.2:Nat))]) (fun q=>pt b (cl [.int .i64 q.1] 3)::pt b3 (cl [.int .i64 t.kind,sv t.name,.slice xa t.args.length xc,.bool t.void,.bool t.sep] 25)::S::hr) (fun q=>q.2≤t.args.length∧q.1=n+1+(partss (t.args.take q.2):Nat)∧q.1≤200∧((depths (t.args.take q.2):Nat):Int)+(deep+1)≤61) (fun q=>t.args.length - q.2) (n+1,0) ⟨Nat.zero_le _,by simp [partss],by omega,by simp [depths]; omega⟩ ?_)))))))
   rintro ⟨m,i⟩ ⟨hi,hm,hm2,hdi⟩
   simp only at hi hm hm2 hdi
   dsimp only
   refine cS (cQ (sM Z (sV (vF Z fa25_2 Z) (sV (vY Z ld23) ?_))))
   refine sV (v_len Z Tryz.underlying23) (sV (v_lss Z Z) (sK [1,2,3,7,32] Z (cC Z (fun hd2=>?_) (fun hd2=>?_))))
   ·have hlt:i<t.args.length:=by simpa using hd2
    have hg:=List.getElem?_eq_getElem hlt
    have hmem:=List.getElem_mem hlt
    obtain ⟨b2,o,cap2,us,e1,hus,hrd,hta⟩:=hy.at hg
    cases e1
    have hdk:=depths_take hg
    have hpk:=partss_take hg
    generalize t.args[i]=a at hmem hta hdk hpk
    obtain ⟨z,rfl,hz⟩:=hta.out
    have hca:=hF a hmem z m (deep+1) hz (by omega) hm2 (by omega) (by omega)
    obtain ⟨za,zc,rfl,_⟩:=id hz.form
    unfold tyC at hrd hca
    refine cK (xT (cS (cB (cQ (sV (vF Z fa25_2 Z) (sV (vY Z ld23) ?_))))))
    refine sM Z (sV (vI (k:=i) Z Z sl23 Z hlt Z) (sV (v_ldn Z ld25 Z hrd) ?_))
    refine sM Z (sV (v_add Z Z (by unfold I64 at *; omega)) (sM Z (st_cl Z Z en45 Z (hca) ?_)))
    rintro u h' ⟨ok,n',rfl,rfl,g1,g2,g3⟩
    simp only [lC,lN]
    refine sV (v_not Z) (sK [1,2,3,7,44] Z ?_)
    cases ok with
    | false =>
     refine cd_true Z ?_
     refine cQ (sA Z (sK [6] Z (cT (xW (xR (xR (xW (xR ?_))))))))
     exact xt_rt rfl ⟨false,n',rfl,rfl,g1,g2,fun h=>by cases h⟩ sbq
    | true =>
     obtain ⟨g4,g5,g6⟩:=g3 rfl
     refine cd_false Z ?_
     refine cK (xB (xT (cR (sM Z (sV (v_add Z Z (by unfold I64 at *; omega)) (sA Z (sN (nK [1,2,3,7] Z (nx_xt ?_)))))))))
     refine xt_aq (n',i+1) ⟨hlt,by show n'=n+1+((partss (t.args.take (i+1)):Nat):Int); rw [hpk]; omega,g5,by show ((depths (t.args.take (i+1)):Nat):Int)+(deep+1)≤61; rw [hdk]; omega⟩ (Nat.sub_lt_sub_left hlt (Nat.lt_succ_self i))
   ·have hil:i=t.args.length:=by
     have:¬ i<t.args.length:=by simpa using hd2
     omega
    rw [hil,List.take_length] at hm hdi
    refine cd_exit (xE (xE (xY (xT (cQ (sA Z (sK [6] Z (cT ?_))))))))
    exact xt_rt Z ⟨true,m,Z,Z,by omega,by omega,fun _=>⟨by rw [hpp]; omega,hm2,by rw [hdd]; omega⟩⟩ sbq
set_option maxRecDepth 100000 in
theorem Light_ct {us:List Value} (hu:Ty S us t) {deep:Int} (h0:0≤deep) (h1:deep≤61):Ct Tryz.prog 12 #[.agg us.toArray,.int .i64 deep] [S] fun u h'=>∃ ok,u = .bool ok∧h'=[S]∧(ok=true→t.parts≤200∧((t.depth:Nat):Int)+deep≤61):=by
 obtain ⟨y,rfl,hy⟩:=hu.out
 have hc:=fun b=>count_go (b:=b) t.depth t y 0 deep (Nat.le_refl _) hy (by omega) (by omega) h0 h1
 obtain ⟨ya,yc,rfl,_⟩:=id hy.form
 unfold tyC at hc ⊢
 refine ct_of (n:=9) Tryz.func12 Z Z (len Z) fun hr w0=>?_
 refine cQ (st_bx Z Z fun b2=>?_)
 refine sA Z (sK [1,2,4] Z (cQ (st_alc al3 fun b5=>?_)))
 refine st_sto Z Z sz3 ?_
 refine sN (nT (cQ (sV (v_ldn Z ld25 Z rds_pt) ?_)))
 refine sM Z (st_cl Z Z en45 Z (hc b5) ?_)
 rintro u h' ⟨ok,n',rfl,rfl,g1,g2,g3⟩
 simp only [lC,lN]
 refine sA Z (sK [4] Z (cT ?_))
 exact xt_rt rfl ⟨ok,rfl,rfl,fun h=>by obtain ⟨g4,g5,g6⟩:=g3 h; exact ⟨by omega,g6⟩⟩ sbq
set_option maxHeartbeats 4000000 in
set_option maxRecDepth 100000 in
theorem Few_ct (hv : ksysR S v l) : Ct Tryz.prog 11 #[v] [S] fun u h' => ∃ ok, u = .bool ok ∧ h' = [S] ∧ (ok = true → Tiny l ∧ l.length ≤ 40) := by
 have hml:maxLen=9223372036854775807:=rfl
 obtain ⟨va,vc,rfl,hlc,hcm,_⟩:=id hv
 refine ct_of (n:=78) Tryz.func11 Z Z (len Z) fun hr w0=>?_
 refine cQ (sA Z (sN (nT (cS (cQ (sM Z (sV (v_len Z Tryz.underlying22) (sV (v_gtr Z Z) (sM Z (st_cut (k:=13) (d:=19) (v:=.bool (decide (10<(l.length:Int)) && (decide ((l.length:Int)≤24) || decide (40<(l.length:Int))))) (fun hcut=>bool_want (b:=decide (10<(l.length:Int))) true (fun hg=>?_) (fun hg=>?_)) ?_))))))))))
 ·refine st_sk Z Z hg ?_
  iterate 3 refine st_sk rfl rfl hg ?_
  refine st_sku Z Z ?_
  refine st_sku Z Z ?_
  refine st_sku Z Z ?_
  refine st_sk Z Z hg ?_
  refine sV (vP (bO Z hg) Z) ?_
  exact hcut _ uG
 ·refine sG Z (bG Z hg) (vM Z) (sG Z (bG Z hg) (v_len Z Tryz.underlying22) (sG Z (bG Z hg) (v_leq Z Z) (sG Z (bG Z hg) (vM Z) (st_cut (k:=12) (d:=18) (v:=.bool (decide ((l.length:Int)≤24) || decide (40<(l.length:Int)))) (fun hcut=>bool_want (b:=decide ((l.length:Int)≤24)) false (fun hg1=>?_) (fun hg1=>?_)) ?_))))
  ·refine st_sk Z Z hg1 ?_
   iterate 2 refine st_sk rfl rfl hg1 ?_
   refine sG Z (bG Z hg) (vQ (bO Z hg1) Z) ?_
   exact hcut _ (uH (by first | rfl | (rw [hg1]; rfl) | simp_all) (uS Z (uS Z (uS Z (uR)))))
  ·refine sG Z (bG Z hg1) (vM Z) (sG Z (bG Z hg1) (v_len Z Tryz.underlying22) (sG Z (bG Z hg1) (v_gtr Z Z) (sG Z (bG Z hg) (vP (bO Z hg1) Z) ?_)))
   exact hcut _ (uH (by first | rfl | (rw [hg1]; rfl) | simp_all) (uS Z (uS Z (uS Z (uR)))))
  refine sV (vQ (bO Z hg) Z) ?_
  exact hcut _ (uH (by first | rfl | (rw [hg]; rfl) | simp_all) (by repeat (first | exact uR | refine uS Z ?_)))
 refine sK [0,2,19] Z (cC Z (fun hq=>?_) (fun hq=>?_))
 ·refine cQ (sA Z (sK [2] Z (cT (xR ?_))))
  exact xt_rt rfl ⟨false,rfl,rfl,fun h=>by cases h⟩ sbq
 ·have hq:(decide (10<(l.length:Int)) && (decide ((l.length:Int)≤24) || decide (40<(l.length:Int))))=false:=hq
  have hl40:l.length≤40:=by
   simp only [Bool.and_eq_false_iff,Bool.or_eq_false_iff,decide_eq_false_iff_not] at hq
   omega
  refine cK (xT (cS (cQ (sA Z (sK [0,2,3] Z (cB (cd_lq (σ := Nat) (fun i=>[(0,.slice va l.length vc),(3,.int .i64 (i:Nat))]) (fun _=>S::hr) (fun i=>i≤l.length∧Tiny (l.take i)) (fun i=>l.length - i) 0 ⟨Nat.zero_le _,fun x hx=>by simp at hx⟩ ?_)))))))
  rintro i ⟨hi,hal⟩
  refine cS (cQ (sM Z (sM Z (sV (v_len Z Tryz.underlying22) (sV (v_lss Z Z) (sK [0,3,23] Z (cC Z (fun hd=>?_) (fun hd=>?_))))))))
  ·have hlt:i<l.length:=by simpa using hd
   obtain ⟨b,o,cap2,us,e1,_,hrd,d,f,pv,c2,ffa,ffc,i2,rfl,hone,hrow,hrowp⟩:=Row.at hv (List.getElem?_eq_getElem hlt)
   cases e1
   have htk:l.take (i+1)=l.take i++[l[i]]:=by rw [List.take_add_one,List.getElem?_eq_getElem hlt]; rfl
   generalize l[i]=x at hrd hone hrow hrowp htk
   obtain ⟨fa,fcap,rfl,hlc2,hcm2,_⟩:=id hrow
   obtain ⟨pa,pcap,rfl,hplc,hpcm,_⟩:=id hrowp
   refine cK (xT (cS (cB (cS (cQ (sM Z (sM Z (sV (vI (k:=i) Z Z sl22 Z hlt Z) (sV (vF Z fa54_2 Z) (sV (vY Z ld48) ?_))))))))))
   refine sV (v_len Z Tryz.underlying48) (sV (v_gtr Z Z) (sM Z (st_cut (k:=16) (d:=41) (v:=.bool (decide (5<(x.formals.length:Int)) || decide (5<(x.parents.length:Int)))) (fun hcut=>bool_want (b:=decide (5<(x.formals.length:Int))) false (fun hg=>?_) (fun hg=>?_)) ?_)))
   ·refine st_sk Z Z hg ?_
    iterate 6 refine st_sk rfl rfl hg ?_
    refine sV (vQ (bO Z hg) Z) ?_
    exact hcut _ uG
   ·refine sG Z (bG Z hg) (vM Z) (sG Z (bG Z hg) (vM Z) (sG Z (bG Z hg) (vI (k:=i) Z Z sl22 Z hlt Z) (sG Z (bG Z hg) (vF Z fa54_3 Z) (sG Z (bG Z hg) (vY Z ld49) ?_))))
    refine sG Z (bG Z hg) (v_len Z Tryz.underlying49) (sG Z (bG Z hg) (v_gtr Z Z) (sV (vP (bO Z hg) Z) ?_))
    exact hcut _ uG
   refine sK [0,3,41] Z (cC Z (fun hq2=>?_) (fun hq2=>?_))
   ·refine cQ (sA Z (sK [2] Z (cT (xR (xW (xR (xR (xW (xR ?_)))))))))
    exact xt_rt rfl ⟨false,rfl,rfl,fun h=>by cases h⟩ sbq
   ·refine cK (xT (cQ (sA Z (sK [0,3,4] Z (cB (cd_lq (σ := Nat) (fun k=>[(0,.slice (some ⟨b,o,none⟩) l.length vc),(3,.int .i64 (i:Nat)),(4,.int .i64 (k:Nat))]) (fun _=>S::hr) (fun k=>k≤x.parents.length∧∀ p∈x.parents.take k,∀ a∈p.args,a.parts≤200∧a.depth≤1000000) (fun k=>x.parents.length - k) 0 ⟨Nat.zero_le _,fun p hp=>by simp at hp⟩ ?_))))))
    rintro k ⟨hk,hak⟩
    refine cS (cQ (sM Z (sM Z (sM Z (sV (vI (k:=i) Z Z sl22 Z hlt Z) (sV (vF Z fa54_3 Z) (sV (vY Z ld49) ?_)))))))
    refine sV (v_len Z Tryz.underlying49) (sV (v_lss Z Z) (sK [0,3,4,49] Z (cC Z (fun hdk=>?_) (fun hdk=>?_))))
    ·have hltk:k<x.parents.length:=by simpa using hdk
     obtain ⟨bq,oq,capq,us,e2,hus,hrdp,hXp⟩:=Row.at hrowp (List.getElem?_eq_getElem hltk)
     cases e2
     have htp:x.parents.take (k+1)=x.parents.take k++[x.parents[k]]:=by rw [List.take_add_one,List.getElem?_eq_getElem hltk]; rfl
     generalize x.parents[k]=p at hXp htp
     obtain ⟨y,p1,p2,p3,p4,rfl,hone2,hy⟩:=hXp
     obtain ⟨ya,yc,rfl,hyl,hym,_⟩:=id hy.form
     refine cK (xT (cS (cB (cQ (sM Z (sM Z (sV (vI (k:=i) Z Z sl22 Z hlt Z) (sV (vF Z fa54_3 Z) (sV (vY Z ld49) ?_)))))))))
     refine sM Z (sV (vI (k:=k) Z Z sl49 Z hltk Z) (sV (v_ldn Z ld79 Z hrdp) ?_))
     refine st_alc al79 fun b5=>?_
     refine st_stoW Z Z sz79 Z hone2 ?_
     refine sK [0,3,4,5] Z (cS (cQ (sV (vF Z fa79_1 Z) (sV (vY Z ld23) ?_))))
     refine sV (v_len Z Tryz.underlying23) (sV (v_gtr Z Z) (sK [0,3,4,5,63] Z (cC Z (fun hq3=>?_) (fun hq3=>?_))))
     ·refine cQ (sA Z (sK [2] Z (cT (xR (xW (xR (xR (xW (xW (xR (xR (xW ?_))))))))))))
      refine xR ?_
      exact xt_rt rfl ⟨false,rfl,rfl,fun h=>by cases h⟩ sbq
     ·refine cK (xT (cQ (sA Z (sK [0,3,4,5,6] Z (cB (cd_lq (σ := Nat) (fun m=>[(0,.slice (some ⟨b,o,none⟩) l.length vc),(3,.int .i64 (i:Nat)),(4,.int .i64 (k:Nat)),(5,.pointer (some ⟨b5,0,none⟩)),(6,.int .i64 (m:Nat))]) (fun _=>pt b5 (cl [sv p.name,.slice ya p.args.length yc,p1,p2,p3,p4] 79)::S::hr) (fun m=>m≤p.args.length∧∀ a∈p.args.take m,a.parts≤200∧a.depth≤1000000) (fun m=>p.args.length - m) 0 ⟨Nat.zero_le _,fun a ha=>by simp at ha⟩ ?_))))))
      rintro m ⟨hm,ham⟩
      refine cS (cQ (sM Z (sV (vF Z fa79_1 Z) (sV (vY Z ld23) ?_))))
      refine sV (v_len Z Tryz.underlying23) (sV (v_lss Z Z) (sK [0,3,4,5,6,68] Z (cC Z (fun hdm=>?_) (fun hdm=>?_))))
      ·have hltm:m<p.args.length:=by simpa using hdm
       obtain ⟨ba,oa,capa,us,e3,hus,hrda,hta⟩:=hy.at (List.getElem?_eq_getElem hltm)
       cases e3
       have hta2:p.args.take (m+1)=p.args.take m++[p.args[m]]:=by rw [List.take_add_one,List.getElem?_eq_getElem hltm]; rfl
       generalize p.args[m]=a at hta hta2
       have hli:=Light_ct hta (deep:=0) (by omega) (by omega)
       obtain ⟨z,rfl,hz⟩:=hta.out
       obtain ⟨za,zc,rfl,_⟩:=id hz.form
       unfold tyC at hrda hli
       refine cK (xT (cS (cB (cQ (sV (vF Z fa79_1 Z) (sV (vY Z ld23) ?_))))))
       refine sM Z (sV (vI (k:=m) Z Z sl23 Z hltm Z) (sV (v_ldn Z ld25 Z hrda) ?_))
       refine st_cl Z Z en12 Z (hli) ?_
       rintro u h' ⟨ok,rfl,rfl,hok⟩
       simp only [lC,lN]
       refine sV (v_not Z) (sK [0,3,4,5,6,77] Z ?_)
       cases ok with
       | false =>
        refine cd_true Z ?_
        refine cQ (sA Z (sK [2] Z (cT (xW (xR (xR (xW (xW (xR (xR (xW (xW ?_))))))))))))
        refine xR (xR (xW (xR ?_)))
        exact xt_rt rfl ⟨false,rfl,rfl,fun h=>by cases h⟩ sbq
       | true =>
        obtain ⟨g1,g2⟩:=hok rfl
        refine cd_false Z ?_
        refine cK (xB (xT (cR (sM Z (sV (v_add Z Z (by unfold I64 at *; omega)) (sA Z (sN (nK [0,3,4,5,6] Z (nx_xt ?_)))))))))
        refine xt_aq (m+1) ⟨hltm,fun a' ha'=>by
         rw [hta2] at ha'
         rcases List.mem_append.1 ha' with h | h
         ·exact ham a' h
         ·simp at h; subst h; exact ⟨g1,by omega⟩⟩ (Nat.sub_lt_sub_left hltm (Nat.lt_succ_self m))
      ·have hml2:m=p.args.length:=by
        have:¬ m<p.args.length:=by simpa using hdm
        omega
       rw [hml2,List.take_length] at ham
       refine cd_exit (xE (xE (xY (xB (xT (cR (sM Z (sV (v_add Z Z (by unfold I64 at *; omega)) (sA Z (sN (nK [0,3,4] Z (nx_xt ?_))))))))))))
       refine xt_aq (k+1) ⟨hltk,fun p' hp'=>by
        rw [htp] at hp'
        rcases List.mem_append.1 hp' with h | h
        ·exact hak p' h
        ·simp at h; subst h; exact ham⟩ (Nat.sub_lt_sub_left hltk (Nat.lt_succ_self k))
    ·have hkl:k=x.parents.length:=by
      have:¬ k<x.parents.length:=by simpa using hdk
      omega
     rw [hkl,List.take_length] at hak
     refine cd_exit (xE (xE (xY (xB (xT (cR (sM Z (sV (v_add Z Z (by unfold I64 at *; omega)) (sA Z (sN (nK [0,3] Z (nx_xt ?_))))))))))))
     refine xt_aq (i+1) ⟨hlt,fun x' hx'=>by
      rw [htk] at hx'
      rcases List.mem_append.1 hx' with h | h
      ·exact hal x' h
      ·simp at h; subst h; exact hak⟩ (Nat.sub_lt_sub_left hlt (Nat.lt_succ_self i))
  ·have hil:i=l.length:=by
    have:¬ i<l.length:=by simpa using hd
    omega
   rw [hil,List.take_length] at hal
   refine cd_exit (xE (xE (xY (xT (cQ (sA Z (sK [2] Z (cT ?_))))))))
   exact xt_rt Z ⟨true,Z,Z,fun _=>⟨hal,hl40⟩⟩ sbq
structure Given (l:KS) (c:Nm) (ts:List Kt):Prop where
 tiny:Tiny l
 len:l.length≤40
 chk:(kcheck l).1=0
 tys:∀ t∈ts,askedE l c [t]=0∧t.depth≤61
def goesB (l:KS) (c:Nm) (s t:Kt):Bool:=(askedE l c [s,t] == 0) && decide ((whyC l (fmsOf l c) s t).1<11)
end
end Go.Hr
namespace Go.Ck
open Go Go.RowKit Go.ChangeShapes Go.WideShapes
section
variable {H:Type} {enc:TypeId×Value→H} {P:Program} {W:World}
theorem choose_rows {α : Type} {Q : Nat → α → Prop} : ∀ n : Nat, (∀ i, i < n → ∃ x, Q i x) → ∃ xs : List α, xs.length = n ∧ ∀ i x, xs[i]? = some x → Q i x
 | 0,_=>⟨[],rfl,fun i x h=>by simp at h⟩
 | n + 1, h => by
  obtain ⟨xs,h1,h2⟩:=choose_rows n fun i hi=>h i (by omega)
  obtain ⟨x,hx⟩:=h n (by omega)
  refine ⟨xs++[x],by simp [h1],fun i y hy=>?_⟩
  by_cases hi:i<xs.length
  ·rw [List.getElem?_append_left hi] at hy; exact h2 i y hy
  ·rw [List.getElem?_append_right (by omega)] at hy
   have h0:i - xs.length=0:=by
    have:=(List.getElem?_eq_some_iff.1 hy).1
    simp at this; omega
   rw [h0] at hy
   simp at hy
   subst hy
   have:i=n:=by omega
   rw [this]; exact hx
theorem row_gd {α : Type} {X : List Value → α → Prop} {n : Nat} {t e : TypeId} {v : Value} (h : Gd enc P W n t [v]) (hu : P.underlying t = some (.slice e)) (hsz : 0 < P.cellsOf e) (hX : ∀ m us, n = m + 1 → Gd enc P W m e us → ∃ x, X us x) :
  ∃ xs:List α,Row (old W) (P.cellsOf e) X v xs∧xs.length * P.bytesOf e≤reachBytes:=by
 rcases h.slice hu hsz with h0 | ⟨a,len,cap,m,hn,h1,h2,h3,h4,h5⟩
 ·obtain rfl:=(List.cons.inj h0).1
  exact ⟨[],Row.nil,by simp⟩
 ·obtain rfl:=(List.cons.inj h1).1
  obtain ⟨xs,g1,g2⟩:=choose_rows (Q:=fun i (x : α)=>∃ b o us,a=⟨b,o,none⟩∧us.length=P.cellsOf e∧Rds (old W) b (o+i * P.cellsOf e) us∧X us x) len fun i hi=>by
   obtain ⟨b,o,us,k1,k2,k3,k4⟩:=h5 i hi
   obtain ⟨x,hx⟩:=hX m us hn k4
   exact ⟨x,b,o,us,k1,k2,k3,hx⟩
  subst g1
  refine ⟨xs,⟨some a,cap,rfl,h2,h3,(fun h=>by cases h),fun i x hi=>?_⟩,h4⟩
  obtain ⟨b,o,us,k1,k2,k3,k4⟩:=g2 i x hi
  exact ⟨b,o,us,by rw [k1],k2,k3,k4⟩
theorem gd_str {n:Nat} {t:TypeId} {cs:List Value} (h:Gd enc P W n t cs) (hu:P.underlying t=some .string):∃ s:List UInt8,cs=[sv s]:=by
 obtain ⟨x,h,_⟩:=h
 cases n with
 | zero=>simp [DataW.trod] at h
 | succ n =>
  obtain ⟨q,rfl,_⟩:=DataW.trod_string hu h
  exact ⟨q.data.toList,Z⟩
theorem gd_bool {n:Nat} {t:TypeId} {cs:List Value} (h:Gd enc P W n t cs) (hu:P.underlying t=some .bool):∃ b,cs=[.bool b]:=by
 obtain ⟨x,h,_⟩:=h
 cases n with
 | zero=>simp [DataW.trod] at h
 | succ n =>
  obtain ⟨q,rfl,_⟩:=DataW.trod_bool hu h
  exact ⟨_,Z⟩
theorem gd_int {n:Nat} {t:TypeId} {k:IntKind} {cs:List Value} (h:Gd enc P W n t cs) (hu:P.underlying t=some (.int k)):∃ q,cs=[.int k q]:=by
 obtain ⟨x,h,_⟩:=h
 cases n with
 | zero=>simp [DataW.trod] at h
 | succ n =>
  obtain ⟨q,rfl,_⟩:=DataW.trod_int hu h
  exact ⟨_,Z⟩
end
end Go.Ck
namespace Go.Hr
open Go Go.RowKit Go.ChangeShapes Go.WideShapes Go.Ck Go.Proofs Go.Proofs.YtaohbfnepjjdgaaGreat
section
variable {H:Type} {enc:TypeId×Value→H} {W:World}
theorem cl25:Tryz.prog.cellsOf 25=5:=by kernel_rfl
theorem cl94:Tryz.prog.cellsOf 94=2:=by kernel_rfl
theorem cl79:Tryz.prog.cellsOf 79=6:=by kernel_rfl
theorem cl54:Tryz.prog.cellsOf 54=7:=by kernel_rfl
theorem cl9:Tryz.prog.cellsOf 9=1:=by kernel_rfl
theorem by25:Tryz.prog.bytesOf 25=56:=by kernel_rfl
theorem list5 {us:List Value} (h:us.length=5):∃ a b c d e,us=[a,b,c,d,e]:=by
 match us,h with
 | [a,b,c,d,e],_=>exact ⟨a,b,c,d,e,rfl⟩
theorem list6 {us:List Value} (h:us.length=6):∃ a b c d e f,us=[a,b,c,d,e,f]:=by
 match us,h with
 | [a,b,c,d,e,f],_=>exact ⟨a,b,c,d,e,f,rfl⟩
theorem list7 {us:List Value} (h:us.length=7):∃ a b c d e f g,us=[a,b,c,d,e,f,g]:=by
 match us,h with
 | [a,b,c,d,e,f,g],_=>exact ⟨a,b,c,d,e,f,g,rfl⟩
theorem list2 {us:List Value} (h:us.length=2):∃ a b,us=[a,b]:=by
 match us,h with
 | [a,b],_=>exact ⟨a,b,rfl⟩
set_option maxRecDepth 100000 in
theorem ty_of_gd:∀ (n:Nat) (us:List Value),Gd enc Tryz.prog W n 25 us→∃ t,Ty (old W) us t:=by
 intro n
 induction n using Nat.strongRecOn with
 | _ n ih =>
  intro us h
  obtain ⟨m,rfl,hl,hf⟩:=h.struct Tryz.underlying25
  obtain ⟨a,b,c,d,e,rfl⟩:=list5 (by rw [hl,cl25])
  have f0:=hf 0 _ rfl
  have f1:=hf 1 _ rfl
  have f2:=hf 2 _ rfl
  have f3:=hf 3 _ rfl
  have f4:=hf 4 _ rfl
  have f0:Gd enc Tryz.prog W m 3 [a]:=f0
  have f1:Gd enc Tryz.prog W m 9 [b]:=f1
  have f2:Gd enc Tryz.prog W m 23 [c]:=f2
  have f3:Gd enc Tryz.prog W m 4 [d]:=f3
  have f4:Gd enc Tryz.prog W m 4 [e]:=f4
  obtain ⟨k,hk⟩:=gd_int f0 Tryz.underlying3
  obtain ⟨nm,hnm⟩:=gd_str f1 Tryz.underlying9
  obtain ⟨vo,hvo⟩:=gd_bool f3 Tryz.underlying4
  obtain ⟨se,hse⟩:=gd_bool f4 Tryz.underlying4
  cases hk; cases hnm; cases hvo; cases hse
  obtain ⟨ts,hr,hb⟩:=row_gd (X:=Ty (old W)) f2 Tryz.underlying23 (by rw [cl25]; decide) fun m' us' hm hg=>ih m' (by omega) us' hg
  rw [cl25] at hr
  rw [by25] at hb
  exact ⟨.mk k nm ts vo se,Ty.of (t:=.mk k nm ts vo se) Z ⟨hr,hb⟩⟩
set_option maxRecDepth 100000 in
theorem tys_of_gd {n:Nat} {v:Value} (h:Gd enc Tryz.prog W n 23 [v]):∃ ts,Tys (old W) v ts:=by
 obtain ⟨ts,hr,hb⟩:=row_gd (X:=Ty (old W)) h Tryz.underlying23 (by rw [cl25]; decide) fun m' us' hm hg=>ty_of_gd m' us' hg
 rw [cl25] at hr
 rw [by25] at hb
 exact ⟨ts,hr,hb⟩
set_option maxRecDepth 100000 in
theorem fm_of_gd {n:Nat} {us:List Value} (h:Gd enc Tryz.prog W n 94 us):∃ f,fmC us f:=by
 obtain ⟨m,rfl,hl,hf⟩:=h.struct Tryz.underlying94
 obtain ⟨a,b,rfl⟩:=list2 (by rw [hl,cl94])
 have f0:Gd enc Tryz.prog W m 9 [a]:=hf 0 _ rfl
 have f1:Gd enc Tryz.prog W m 9 [b]:=hf 1 _ rfl
 obtain ⟨x,hx⟩:=gd_str f0 Tryz.underlying9
 obtain ⟨y,hy⟩:=gd_str f1 Tryz.underlying9
 cases hx; cases hy
 exact ⟨⟨x,y⟩,Z⟩
set_option maxRecDepth 100000 in
theorem fms_of_gd {n:Nat} {v:Value} (h:Gd enc Tryz.prog W n 48 [v]):∃ F,Row (old W) 2 fmC v F:=by
 obtain ⟨F,hr,_⟩:=row_gd (X:=fmC) h Tryz.underlying48 (by rw [cl94]; decide) fun m' us' hm hg=>fm_of_gd hg
 rw [cl94] at hr
 exact ⟨F,hr⟩
theorem cl_pos {e:TypeId} (h:Nat.blt 0 (Tryz.prog.cellsOf e)=true):0<Tryz.prog.cellsOf e:=Nat.lt_of_succ_le (by simpa [Nat.blt] using h)
theorem one_slice {n:Nat} {t e:TypeId} {v:Value} (h:Gd enc Tryz.prog W n t [v]) (hu:Tryz.prog.underlying t=some (.slice e)) (hsz:0<Tryz.prog.cellsOf e):∃ a n c,v = .slice a n c:=by
 rcases h.slice hu hsz with h0 | ⟨a,len,cap,m,hn,h1,_⟩
 ·obtain rfl:=(List.cons.inj h0).1; exact ⟨_,_,_,rfl⟩
 ·obtain rfl:=(List.cons.inj h1).1; exact ⟨_,_,_,rfl⟩
set_option maxRecDepth 100000 in
theorem kpar_of_gd {n:Nat} {us:List Value} (h:Gd enc Tryz.prog W n 79 us):∃ p,kparC (old W) us p:=by
 obtain ⟨m,rfl,hl,hf⟩:=h.struct Tryz.underlying79
 obtain ⟨a,b,c,d,e,f,rfl⟩:=list6 (by rw [hl,cl79])
 have f0:Gd enc Tryz.prog W m 9 [a]:=hf 0 _ rfl
 have f1:Gd enc Tryz.prog W m 23 [b]:=hf 1 _ rfl
 have f2:Gd enc Tryz.prog W m 77 [c]:=hf 2 _ rfl
 have f3:Gd enc Tryz.prog W m 50 [d]:=hf 3 _ rfl
 have f4:Gd enc Tryz.prog W m 50 [e]:=hf 4 _ rfl
 have f5:Gd enc Tryz.prog W m 50 [f]:=hf 5 _ rfl
 obtain ⟨x,hx⟩:=gd_str f0 Tryz.underlying9
 cases hx
 obtain ⟨ts,hts⟩:=tys_of_gd f1
 obtain ⟨_,_,_,rfl⟩:=one_slice f2 Tryz.underlying77 (cl_pos (by kernel_rfl))
 obtain ⟨_,_,_,rfl⟩:=one_slice f3 Tryz.underlying50 (by rw [cl9]; decide)
 obtain ⟨_,_,_,rfl⟩:=one_slice f4 Tryz.underlying50 (by rw [cl9]; decide)
 obtain ⟨_,_,_,rfl⟩:=one_slice f5 Tryz.underlying50 (by rw [cl9]; decide)
 exact ⟨⟨x,ts⟩,b,_,_,_,_,Z,by simp only [List.all_cons,List.all_nil,hts.one]; rfl,hts⟩
set_option maxRecDepth 100000 in
theorem kcls_of_gd {n:Nat} {us:List Value} (h:Gd enc Tryz.prog W n 54 us):∃ x,kclsC (old W) us x:=by
 obtain ⟨m,rfl,hl,hf⟩:=h.struct Tryz.underlying54
 obtain ⟨a,b,c,d,e,f,g,rfl⟩:=list7 (by rw [hl,cl54])
 have f0:Gd enc Tryz.prog W m 9 [a]:=hf 0 _ rfl
 have f1:Gd enc Tryz.prog W m 4 [b]:=hf 1 _ rfl
 have f2:Gd enc Tryz.prog W m 48 [c]:=hf 2 _ rfl
 have f3:Gd enc Tryz.prog W m 49 [d]:=hf 3 _ rfl
 have f4:Gd enc Tryz.prog W m 50 [e]:=hf 4 _ rfl
 have f5:Gd enc Tryz.prog W m 51 [f]:=hf 5 _ rfl
 have f6:Gd enc Tryz.prog W m 52 [g]:=hf 6 _ rfl
 obtain ⟨x,hx⟩:=gd_str f0 Tryz.underlying9
 cases hx
 obtain ⟨q,hq⟩:=gd_bool f1 Tryz.underlying4
 cases hq
 obtain ⟨F,hF⟩:=fms_of_gd f2
 obtain ⟨Pl,hP,_⟩:=row_gd (X:=kparC (old W)) f3 Tryz.underlying49 (by rw [cl79]; decide) fun m' us' hm hg=>kpar_of_gd hg
 rw [cl79] at hP
 obtain ⟨_,_,_,rfl⟩:=one_slice f4 Tryz.underlying50 (by rw [cl9]; decide)
 obtain ⟨fa,fn,fc,rfl⟩:=one_slice f5 Tryz.underlying51 (cl_pos (by kernel_rfl))
 obtain ⟨_,_,_,rfl⟩:=one_slice f6 Tryz.underlying52 (cl_pos (by kernel_rfl))
 exact ⟨⟨x,F,Pl,fn⟩,_,c,d,_,fa,fc,_,Z,by simp only [List.all_cons,List.all_nil,hF.one,hP.one]; rfl,hF,hP⟩
set_option maxRecDepth 100000 in
theorem ksys_of_gd {n:Nat} {v:Value} (h:Gd enc Tryz.prog W n 22 [v]):∃ l,ksysR (old W) v l:=by
 obtain ⟨l,hr,_⟩:=row_gd (X:=kclsC (old W)) h Tryz.underlying22 (by rw [cl54]; decide) fun m' us' hm hg=>kcls_of_gd hg
 rw [cl54] at hr
 exact ⟨l,hr⟩
def partK:List TypeId:=[3,4,9,23,25,48,49,50,51,52,54,61,77,79,94,239,240,242,243,245,247,249,252,254]
theorem gd_of {v:Value} {t:TypeId} {d:DataW H} {ps:List MemPlace} {us:List Value} (h:DataW.Trod enc Tryz.prog W 0 (fun _=>true) true t v d ps) (hc:v.cells.toList=us) (hz:∀ n∈d.weights Tryz.prog t,n≤reachBytes):∃ n,Gd enc Tryz.prog W n t us:=by
 obtain ⟨fuel,h⟩:=h
 exact ⟨fuel,(d,ps),by rw [← hc]; exact h,hz⟩
end
end Go.Hr
namespace Go.Hr
open Go Go.RowKit Go.Ck Go.Proofs Go.Proofs.YtaohbfnepjjdgaaGreat Fx
attribute [local irreducible] Go.Ck.Sub St Cd Xt Nx DrL LsW
section
variable {S T N R:Res} {v:Value} {l:KS} {s t:Kt} {ts:List Kt} {all:List (Nm×Own)} {x:KC}
set_option maxHeartbeats 4000000 in
set_option maxRecDepth 100000 in
theorem kindFormals_ct (hv : ksysR S v l) (c n : Nm) {F : List Fm} {A : List Kt} {fv av : Value} (hf : Row S 2 fmC fv F) (hA : Tys S av A) {us : List Value} (hu : Ty S us t) : Ct Tryz.prog 7 #[v, sv c, sv n, fv, av, .agg us.toArray] [S] fun u h' => u = .bool true ∧ h' = [S] := by
 have hml:maxLen=9223372036854775807:=rfl
 have hfw:=Few_ct hv
 have hl1:=Light_ct hu (deep:=0) (by omega) (by omega)
 have hb1:=fun htn=>bound_ct hv htn c n
 have hb2:=fun htn hl=>BoundR_ct hv htn hl c n
 have hs1:=subst_ct hf hA hu
 have hs2:=substR_ct hf hA hu
 obtain ⟨va,vc,rfl,hlc,hcm,_⟩:=id hv
 obtain ⟨fa,fcap,rfl,hlf,hcf,_⟩:=id hf
 obtain ⟨aa,acap,rfl,hla,hca,_⟩:=id hA.form
 obtain ⟨y0,rfl,hy0⟩:=hu.out
 obtain ⟨ya,yc,rfl,_⟩:=id hy0.form
 have hbn:(boundK l c n).1.args=[]:=by
  unfold boundK
  split
  ·rfl
  ·split <;> rfl
 have hsb:=sameR_ct (S:=S) (Ty.of (S:=S) (us:=tyC (boundK l c n).1 (.slice none 0 0)) (t:=(boundK l c n).1) rfl (hbn ▸ Tys.nil)) (Ty.of (S:=S) (us:=tyC (boundK l c n).1 (.slice none 0 0)) (t:=(boundK l c n).1) rfl (hbn ▸ Tys.nil))
 rw [(same_iff _ _).2 rfl] at hsb
 generalize boundK l c n=B at hb1 hb2 hsb
 unfold tyC at hl1 hb1 hb2 hsb hs1 hs2 ⊢
 refine ct_of (n:=90) Tryz.func7 Z Z (len Z) fun hr w0=>?_
 refine cQ (st_bx Z Z fun b11=>?_)
 refine sA Z (sK [0,1,2,3,4,11,12] Z (cQ (st_clr Z Z en10 Z (head_ct) ?_)))
 refine sA Z (sK [0,1,2,3,4,11,12,13] Z (cS (cQ (sM Z (st_cl Z Z en11 Z (hfw) ?_)))))
 rintro u h' ⟨ok,rfl,rfl,hok⟩
 simp only [lC,lN]
 refine sV (v_not Z) (sM Z ?_)
 cases ok with
 | false =>
  iterate 3 refine st_sk rfl rfl rfl ?_
  refine sV (vQ Z Z) (sM Z (st_sk Z Z Z ?_))
  iterate 2 refine st_sk rfl rfl rfl ?_
  refine sV (vQ Z Z) (sM Z (st_sk Z Z Z ?_))
  iterate 2 refine st_sk rfl rfl rfl ?_
  refine sV (vQ Z Z) (sK [0,1,2,3,4,11,12,13,38] Z (cd_true Z ?_))
  refine cQ (sM Z (sA Z (sK [12] Z (cT (xR (xt_law Z ?_))))))
  refine Sub.sel slq ?_
  repeat apply Sub.cons
  exact Sub.refl _
 | true =>
  obtain ⟨htn,hl40⟩:=hok rfl
  refine sG Z Z (v_ldn Z ld25 Z rds_pt) ?_
  refine st_grd Z Z (st_cl Z Z en12 Z (hl1) ?_)
  rintro u h' ⟨ok,rfl,rfl,hok⟩
  simp only [lC,lN]
  refine sG Z Z (v_not Z) (sV (vP Z Z) (sM Z ?_))
  cases ok with
  | false =>
   iterate 3 refine st_sk rfl rfl rfl ?_
   refine sV (vQ Z Z) (sM Z (st_sk Z Z Z ?_))
   iterate 2 refine st_sk rfl rfl rfl ?_
   refine sV (vQ Z Z) (sK [0,1,2,3,4,11,12,13,38] Z (cd_true Z ?_))
   refine cQ (sM Z (sA Z (sK [12] Z (cT (xR (xt_law Z ?_))))))
   refine Sub.sel slq ?_
   repeat apply Sub.cons
   exact Sub.refl _
  | true =>
   obtain ⟨_,hds⟩:=hok rfl
   refine sG Z Z (vM Z) (sG Z Z (v_len Z Tryz.underlying48) (sG Z Z (v_gtr Z Z) (sV (vP Z Z) (sM Z (st_cut (k:=18) (d:=38) (v:=.bool (decide (10<(F.length:Int)) || decide (10<(A.length:Int)))) (fun hcut=>bool_want (b:=decide (10<(F.length:Int))) false (fun hg=>?_) (fun hg=>?_)) ?_)))))
   ·refine st_sk Z Z hg ?_
    iterate 2 refine st_sk rfl rfl hg ?_
    refine sV (vQ (bO Z hg) Z) ?_
    exact hcut _ uG
   ·refine sG Z (bG Z hg) (vM Z) (sG Z (bG Z hg) (v_len Z Tryz.underlying23) (sG Z (bG Z hg) (v_gtr Z Z) (sV (vP (bO Z hg) Z) ?_)))
    exact hcut _ uG
   refine sK [0,1,2,3,4,11,12,13,38] Z (cC Z (fun hq=>?_) (fun hq=>?_))
   ·refine cQ (sM Z (sA Z (sK [12] Z (cT (xR (xt_law Z ?_))))))
    refine Sub.sel slq ?_
    repeat apply Sub.cons
    exact Sub.refl _
   ·refine cK (xT (cS (cQ (sA Z (sK [0,1,2,3,4,11,12,13,14] Z (cB (cd_lq (σ := Nat) (fun i=>[(0,.slice va l.length vc),(1,sv c),(2,sv n),(3,.slice fa F.length fcap),(4,.slice aa A.length acap),(11,.pointer (some ⟨b11,0,none⟩)),(13,.bool true),(14,.int .i64 (i:Nat))]) (fun _=>pt b11 (cl [.int .i64 t.kind,sv t.name,.slice ya t.args.length yc,.bool t.void,.bool t.sep] 25)::S::hr) (fun i=>i≤A.length) (fun i=>A.length - i) 0 (Nat.zero_le _) ?_)))))))
    rintro i hi
    refine cS (cQ (sM Z (sM Z (sV (v_len Z Tryz.underlying23) (sV (v_lss Z Z) (sK [0,1,2,3,4,11,13,14,43] Z (cC Z (fun hd=>?_) (fun hd=>?_))))))))
    ·have hlt:i<A.length:=by simpa using hd
     obtain ⟨ba,oa,capa,us,e3,hus,hrda,hta⟩:=hA.at (List.getElem?_eq_getElem hlt)
     cases e3
     have hli:=Light_ct hta (deep:=0) (by omega) (by omega)
     generalize A[i]=a at hta hli
     obtain ⟨z,rfl,hz⟩:=hta.out
     obtain ⟨za,zc,rfl,_⟩:=id hz.form
     unfold tyC at hrda hli
     refine cK (xT (cS (cB (cQ (sM Z (sM Z (sV (vI (k:=i) Z Z sl23 Z hlt Z) (sV (v_ldn Z ld25 Z hrda) ?_))))))))
     refine st_cl Z Z en12 Z (hli) ?_
     rintro u h' ⟨ok,rfl,rfl,hok⟩
     simp only [lC,lN]
     refine sV (v_not Z) (sK [0,1,2,3,4,11,13,14,51] Z ?_)
     cases ok with
     | false =>
      refine cd_true Z ?_
      refine cQ (sM Z (sA Z (sK [12] Z (cT (xW (xR (xR (xW (xR (xt_law Z ?_))))))))))
      refine Sub.sel slq ?_
      repeat apply Sub.cons
      exact Sub.refl _
     | true =>
      clear hok
      refine cd_false Z ?_
      refine cK (xB (xT (cR (sM Z (sV (v_add Z Z (by unfold I64 at *; omega)) (sA Z (sN (nK [0,1,2,3,4,11,13,14] Z (nx_xt ?_)))))))))
      refine xt_aq (i+1) hlt (Nat.sub_lt_sub_left hlt (Nat.lt_succ_self i))
    ·refine cd_exit (xE (xE (xY (xT (cQ (sM Z (sM Z (sM Z (st_cl Z Z en30 Z ((hb1 htn)) ?_)))))))))
     rintro u h' ⟨rfl,rfl⟩
     simp only [lC,lN]
     refine sM Z (sV (v_extract Z Z) (sV (v_extract Z Z) (st_alc al25 fun b15=>?_)))
     refine st_stoW Z Z sz25 Z Z ?_
     refine sA Z (sK [0,1,2,3,4,11,13,15,16] Z (cQ (sM Z (sM Z (sM Z (st_cl Z Z en31 Z ((hb2 htn (by omega))) ?_))))))
     rintro u h' ⟨rfl,rfl⟩
     simp only [lC,lN]
     refine sM Z (sV (v_extract Z Z) (sV (v_extract Z Z) (st_alc al25 fun b17=>?_)))
     refine st_stoW Z Z sz25 Z Z ?_
     refine sA Z (sK [3,4,11,13,15,16,17,18] Z (cS (cd_drawh (ork [(0,1),(1,1),(2,0),(3,2),(4,2),(5,2),(6,1),(8,2),(9,2),(10,1),(7,0),(11,0),(12,0),(13,2),(14,2)] .nil) (fun i => !(Nat.beq i 2 || Nat.beq i 11 || Nat.beq i 12)) mixed (by kernel_rfl) ?_)))
     refine dr_v Z (v_ldn Z ld25 Z rds_pt) ?_
     refine dr_v Z (v_ldn Z ld25 Z rds_pt) ?_
     refine dr_eff Z (st_clr Z Z en16 Z (hsb) (dr_nx ?_))
     refine dV Z (vM Z) (dp_vg Z Z Z (vM Z) (dp_vg Z Z Z (vM Z) (dr_vg Z Z Z (v_ldn Z ld25 Z rds_pt) ?_)))
     refine dp_vg Z Z Z (vM Z) (dp_vg Z Z Z (vM Z) (dr_vg Z Z Z (v_ldn Z ld25 Z rds_pt) ?_))
     refine dr_effg Z Z Z (st_grd Z Z (st_cl Z Z en29 Z (hs1) ?_))
     rintro u h' ⟨T,rfl,us1,rfl,ht1⟩
     simp only [lC,lN]
     obtain ⟨x1,rfl,hx1⟩:=ht1.out
     obtain ⟨x1a,x1c,rfl,_⟩:=id hx1.form
     refine dr_nx ?_ (fun _ _=>(sbq))
     refine dr_effg Z Z Z (st_grd Z Z (st_cl Z Z en32 Z (hs2) ?_))
     rintro u h' ⟨T2,rfl,us2,rfl,ht2⟩
     simp only [lC,lN]
     obtain ⟨x2,rfl,hx2⟩:=ht2.out
     obtain ⟨x2a,x2c,rfl,_⟩:=id hx2.form
     refine dr_nx ?_ (fun _ _=>(sbq))
     have hcc:=reads_star (sameR_ct (S:=Res.star [T2,T,S]) (ht1.mono (rd_sub (sbq))) (ht2.mono (rd_sub (sbq))))
     rw [(same_iff _ _).2 rfl] at hcc
     unfold tyC at hcc
     refine dr_effg Z Z Z (st_grd Z Z (st_clr Z Z en16 Z (hcc) (dr_nx ?_)))
     refine dV Z (vQ Z Z) (dV Z (vA Z) (dr_nil (nK [13,16,18,19] Z (nT (cQ (sM Z (sM Z (sG Z Z (vM Z) (sV (vQ Z Z) (sM Z (sG Z Z (vM Z) (sG Z Z (vM Z) (sG Z Z (v_eql Z Z) (sV (vQ Z Z) ?_))))))))))))))
     refine sA Z (sK [12] Z (cT ?_))
     rw [show (B.2 == B.2)=true from beq_self_eq_true _]
     refine xt_law Z ?_
     refine Sub.sel slq ?_
     repeat apply Sub.cons
     exact Sub.refl _
end
end Go.Hr
