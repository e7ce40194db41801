/-
  The laws: small types,small systems; right types,one conforms to another. Conditions: what is read.
  What the arguments of the laws read as: types,systems of generic classes,formals,reasons. No condition.
  KindConforms. Conditions: what is read.
  What the laws say of right types: conforming is the relation of the tables (plain). No condition.
  What KindReasons says of the plain functions. No condition.
  KindReasons. Conditions: what is read.
-/
import Derived.Test.YtaohbfnepjjdgaaGreatM17
import Derived.Test.YtaohbfnepjjdgaaGreatM10
import Derived.Test.YtaohbfnepjjdgaaGreatM11
import Derived.Test.YtaohbfnepjjdgaaGreatM19
import Derived.Test.YtaohbfnepjjdgaaGreatM6
set_option linter.unusedVariables false
set_option linter.unusedSimpArgs false
namespace Go.Hr
open Go Go.RowKit Go.Ck Go.Proofs Go.Proofs.YtaohbfnepjjdgaaGreat Fx
attribute [local irreducible] Go.Ck.Sub St Cd Xt Nx DrL LsW
section
variable {S T N R:Res} {v:Value} {F:List Fm} {A:List Kt} {l:KS} {s t:Kt} {ts:List Kt} {all:List (Nm×Own)} {x:KC}
theorem reads_star {P:Program} {k:FuncId} {args:Array Value} {L:SH} {v:Value} (h:Reads P k args [Res.star L] v):Reads P k args L v:=fun hr w hh=>(h hr w (holds_star1.2 hh)).mono fun _ _ ⟨u,h',he,⟨hu,hT⟩,hH,hS⟩=>⟨u,L,he,⟨hu,rfl⟩,by subst hT; exact holds_star1.1 hH,hS⟩
theorem count_go {b : Nat} : ∀ (D : Nat) (t : Kt) (y : Value) (n deep : Int), t.depth ≤ D → Tys S y t.args → 0 ≤ n → n ≤ 200 → 0 ≤ deep → deep ≤ 61 →
  Ct Tryz.prog 45 #[.agg (tyC t y).toArray,.int .i64 deep,.pointer (some ⟨b,0,none⟩)] [pt b (cl [.int .i64 n] 3),S] fun u h'=>∃ ok n',u = .bool ok∧h'=[pt b (cl [.int .i64 n'] 3),S]∧0≤n'∧n'≤201∧(ok=true→n'=n+(t.parts:Nat)∧n'≤200∧((t.depth:Nat):Int)+deep≤61):=by
 intro D
 induction D with
 | zero=>intro t y n deep hd; cases t; simp [Kt.depth] at hd
 | succ D ih =>
  intro t y n deep hd hy hn0 hn hd0 hd1
  have hml:maxLen=9223372036854775807:=rfl
  have hF:∀ a∈t.args,∀ y (n deep:Int),Tys S y a.args→0≤n→n≤200→0≤deep→deep≤61→_:=fun a ha y n deep=>ih a y n deep (by have:=depth_args ha; omega)
  clear ih
  obtain ⟨xa,xc,rfl,hlc,hcm,_⟩:=hy.form
  unfold tyC
  refine ct_of (n:=45) Tryz.func45 Z Z (len Z) fun hr w0=>?_
  refine cQ (st_bx Z Z fun b3=>?_)
  refine sA Z (sK [1,2,3,6] Z (cQ (sM Z (sM Z (sV (vN Z) (sV (vY Z ld3) ?_))))))
  refine sV (v_add Z Z (by unfold I64 at *; omega)) (sV (vN Z) (st_sto Z Z sz3 ?_))
  refine sK [1,2,3,6] Z (cS (cQ (sM Z (sV (vN Z) (sV (vY Z ld3) ?_)))))
  refine sV (v_gtr Z Z) (sM Z (st_cut (k:=8) (d:=21) (v:=.bool (decide (200<n+1) || decide (60<deep))) (fun hcut=>bool_want (b:=decide (200<n+1)) false (fun hg=>?_) (fun hg=>?_)) ?_))
  ·refine st_sk Z Z hg ?_
   refine st_sk Z Z hg ?_
   refine sV (vQ (bO Z hg) Z) ?_
   exact hcut _ uG
  ·refine sG Z (bG Z hg) (vM Z) (sG Z (bG Z hg) (v_gtr Z Z) (sV (vP (bO Z hg) Z) ?_))
   exact hcut _ uG
  refine sM Z (st_cut (k:=14) (d:=27) (v:=.bool ((decide (200<n+1) || decide (60<deep)) || decide (60<(t.args.length:Int)))) (fun hcut=>bool_want (b:=(decide (200<n+1) || decide (60<deep))) false (fun hg=>?_) (fun hg=>?_)) ?_)
  ·refine st_sk Z Z hg ?_
   iterate 3 refine st_sk rfl rfl hg ?_
   refine sV (vQ (bO Z hg) Z) ?_
   exact hcut _ uG
  ·refine sG Z (bG Z hg) (vF Z fa25_2 Z) (sG Z (bG Z hg) (vY Z ld23) ?_)
   refine sG Z (bG Z hg) (v_len Z Tryz.underlying23) (sG Z (bG Z hg) (v_gtr Z Z) (sV (vP (bO Z hg) Z) ?_))
   exact hcut _ uG
  refine sK [1,2,3,6,27] Z (cC Z (fun hq=>?_) (fun hq=>?_))
  ·refine cQ (sA Z (sK [6] Z (cT (xR ?_))))
   exact xt_rt rfl ⟨false,n+1,rfl,rfl,by omega,by omega,fun h=>by cases h⟩ sbq
  ·have hq:((decide (200<n+1) || decide (60<deep)) || decide (60<(t.args.length:Int)))=false:=hq
   simp only [Bool.or_eq_false_iff,decide_eq_false_iff_not] at hq
   have hdd:=depth_eq (s:=t)
   have hpp:=parts_eq (s:=t)
   refine cK (xT (cS (cQ (sA Z (sK [1,2,3,6,7] Z (cB (cd_lq (σ := Int×Nat) (fun q=>[(1,.int .i64 deep),(2,.pointer (some ⟨b,0,none⟩)),(3,.pointer (some ⟨b3,0,none⟩)),(7,.int .i64 (q.2:Nat))]) (fun q=>pt b (cl [.int .i64 q.1] 3)::pt b3 (cl [.int .i64 t.kind,sv t.name,.slice xa t.args.length xc,.bool t.void,.bool t.sep] 25)::S::hr) (fun q=>q.2≤t.args.length∧q.1=n+1+(partss (t.args.take q.2):Nat)∧q.1≤200∧((depths (t.args.take q.2):Nat):Int)+(deep+1)≤61) (fun q=>t.args.length - q.2) (n+1,0) ⟨Nat.zero_le _,by simp [partss],by omega,by simp [depths]; omega⟩ ?_)))))))
   rintro ⟨m,i⟩ ⟨hi,hm,hm2,hdi⟩
   simp only at hi hm hm2 hdi
   dsimp only
   refine cS (cQ (sM Z (sV (vF Z fa25_2 Z) (sV (vY Z ld23) ?_))))
   refine sV (v_len Z Tryz.underlying23) (sV (v_lss Z Z) (sK [1,2,3,7,32] Z (cC Z (fun hd2=>?_) (fun hd2=>?_))))
   ·have hlt:i<t.args.length:=by simpa using hd2
    have hg:=List.getElem?_eq_getElem hlt
    have hmem:=List.getElem_mem hlt
    obtain ⟨b2,o,cap2,us,e1,hus,hrd,hta⟩:=hy.at hg
    cases e1
    have hdk:=depths_take hg
    have hpk:=partss_take hg
    generalize t.args[i]=a at hmem hta hdk hpk
    obtain ⟨z,rfl,hz⟩:=hta.out
    have hca:=hF a hmem z m (deep+1) hz (by omega) hm2 (by omega) (by omega)
    obtain ⟨za,zc,rfl,_⟩:=id hz.form
    unfold tyC at hrd hca
    refine cK (xT (cS (cB (cQ (sV (vF Z fa25_2 Z) (sV (vY Z ld23) ?_))))))
    refine sM Z (sV (vI (k:=i) Z Z sl23 Z hlt Z) (sV (v_ldn Z ld25 Z hrd) ?_))
    refine sM Z (sV (v_add Z Z (by unfold I64 at *; omega)) (sM Z (st_cl Z Z en45 Z (hca) ?_)))
    rintro u h' ⟨ok,n',rfl,rfl,g1,g2,g3⟩
    simp only [lC,lN]
    refine sV (v_not Z) (sK [1,2,3,7,44] Z ?_)
    cases ok with
    | false =>
     refine cd_true Z ?_
     refine cQ (sA Z (sK [6] Z (cT (xW (xR (xR (xW (xR ?_))))))))
     exact xt_rt rfl ⟨false,n',rfl,rfl,g1,g2,fun h=>by cases h⟩ sbq
    | true =>
     obtain ⟨g4,g5,g6⟩:=g3 rfl
     refine cd_false Z ?_
     refine cK (xB (xT (cR (sM Z (sV (v_add Z Z (by unfold I64 at *; omega)) (sA Z (sN (nK [1,2,3,7] Z (nx_xt ?_)))))))))
     refine xt_aq (n',i+1) ⟨hlt,by show n'=n+1+((partss (t.args.take (i+1)):Nat):Int); rw [hpk]; omega,g5,by show ((depths (t.args.take (i+1)):Nat):Int)+(deep+1)≤61; rw [hdk]; omega⟩ (Nat.sub_lt_sub_left hlt (Nat.lt_succ_self i))
   ·have hil:i=t.args.length:=by
     have:¬ i<t.args.length:=by simpa using hd2
     omega
    rw [hil,List.take_length] at hm hdi
    refine cd_exit (xE (xE (xY (xT (cQ (sA Z (sK [6] Z (cT ?_))))))))
    exact xt_rt Z ⟨true,m,Z,Z,by omega,by omega,fun _=>⟨by rw [hpp]; omega,hm2,by rw [hdd]; omega⟩⟩ sbq
set_option maxRecDepth 100000 in
theorem Light_ct {us:List Value} (hu:Ty S us t) {deep:Int} (h0:0≤deep) (h1:deep≤61):Ct Tryz.prog 12 #[.agg us.toArray,.int .i64 deep] [S] fun u h'=>∃ ok,u = .bool ok∧h'=[S]∧(ok=true→t.parts≤200∧((t.depth:Nat):Int)+deep≤61):=by
 obtain ⟨y,rfl,hy⟩:=hu.out
 have hc:=fun b=>count_go (b:=b) t.depth t y 0 deep (Nat.le_refl _) hy (by omega) (by omega) h0 h1
 obtain ⟨ya,yc,rfl,_⟩:=id hy.form
 unfold tyC at hc ⊢
 refine ct_of (n:=9) Tryz.func12 Z Z (len Z) fun hr w0=>?_
 refine cQ (st_bx Z Z fun b2=>?_)
 refine sA Z (sK [1,2,4] Z (cQ (st_alc al3 fun b5=>?_)))
 refine st_sto Z Z sz3 ?_
 refine sN (nT (cQ (sV (v_ldn Z ld25 Z rds_pt) ?_)))
 refine sM Z (st_cl Z Z en45 Z (hc b5) ?_)
 rintro u h' ⟨ok,n',rfl,rfl,g1,g2,g3⟩
 simp only [lC,lN]
 refine sA Z (sK [4] Z (cT ?_))
 exact xt_rt rfl ⟨ok,rfl,rfl,fun h=>by obtain ⟨g4,g5,g6⟩:=g3 h; exact ⟨by omega,g6⟩⟩ sbq
set_option maxHeartbeats 4000000 in
set_option maxRecDepth 100000 in
theorem Few_ct (hv : ksysR S v l) : Ct Tryz.prog 11 #[v] [S] fun u h' => ∃ ok, u = .bool ok ∧ h' = [S] ∧ (ok = true → Tiny l ∧ l.length ≤ 40) := by
 have hml:maxLen=9223372036854775807:=rfl
 obtain ⟨va,vc,rfl,hlc,hcm,_⟩:=id hv
 refine ct_of (n:=78) Tryz.func11 Z Z (len Z) fun hr w0=>?_
 refine cQ (sA Z (sN (nT (cS (cQ (sM Z (sV (v_len Z Tryz.underlying22) (sV (v_gtr Z Z) (sM Z (st_cut (k:=13) (d:=19) (v:=.bool (decide (10<(l.length:Int)) && (decide ((l.length:Int)≤24) || decide (40<(l.length:Int))))) (fun hcut=>bool_want (b:=decide (10<(l.length:Int))) true (fun hg=>?_) (fun hg=>?_)) ?_))))))))))
 ·refine st_sk Z Z hg ?_
  iterate 3 refine st_sk rfl rfl hg ?_
  refine st_sku Z Z ?_
  refine st_sku Z Z ?_
  refine st_sku Z Z ?_
  refine st_sk Z Z hg ?_
  refine sV (vP (bO Z hg) Z) ?_
  exact hcut _ uG
 ·refine sG Z (bG Z hg) (vM Z) (sG Z (bG Z hg) (v_len Z Tryz.underlying22) (sG Z (bG Z hg) (v_leq Z Z) (sG Z (bG Z hg) (vM Z) (st_cut (k:=12) (d:=18) (v:=.bool (decide ((l.length:Int)≤24) || decide (40<(l.length:Int)))) (fun hcut=>bool_want (b:=decide ((l.length:Int)≤24)) false (fun hg1=>?_) (fun hg1=>?_)) ?_))))
  ·refine st_sk Z Z hg1 ?_
   iterate 2 refine st_sk rfl rfl hg1 ?_
   refine sG Z (bG Z hg) (vQ (bO Z hg1) Z) ?_
   exact hcut _ (uH (by first | rfl | (rw [hg1]; rfl) | simp_all) (uS Z (uS Z (uS Z (uR)))))
  ·refine sG Z (bG Z hg1) (vM Z) (sG Z (bG Z hg1) (v_len Z Tryz.underlying22) (sG Z (bG Z hg1) (v_gtr Z Z) (sG Z (bG Z hg) (vP (bO Z hg1) Z) ?_)))
   exact hcut _ (uH (by first | rfl | (rw [hg1]; rfl) | simp_all) (uS Z (uS Z (uS Z (uR)))))
  refine sV (vQ (bO Z hg) Z) ?_
  exact hcut _ (uH (by first | rfl | (rw [hg]; rfl) | simp_all) (by repeat (first | exact uR | refine uS Z ?_)))
 refine sK [0,2,19] Z (cC Z (fun hq=>?_) (fun hq=>?_))
 ·refine cQ (sA Z (sK [2] Z (cT (xR ?_))))
  exact xt_rt rfl ⟨false,rfl,rfl,fun h=>by cases h⟩ sbq
 ·have hq:(decide (10<(l.length:Int)) && (decide ((l.length:Int)≤24) || decide (40<(l.length:Int))))=false:=hq
  have hl40:l.length≤40:=by
   simp only [Bool.and_eq_false_iff,Bool.or_eq_false_iff,decide_eq_false_iff_not] at hq
   omega
  refine cK (xT (cS (cQ (sA Z (sK [0,2,3] Z (cB (cd_lq (σ := Nat) (fun i=>[(0,.slice va l.length vc),(3,.int .i64 (i:Nat))]) (fun _=>S::hr) (fun i=>i≤l.length∧Tiny (l.take i)) (fun i=>l.length - i) 0 ⟨Nat.zero_le _,fun x hx=>by simp at hx⟩ ?_)))))))
  rintro i ⟨hi,hal⟩
  refine cS (cQ (sM Z (sM Z (sV (v_len Z Tryz.underlying22) (sV (v_lss Z Z) (sK [0,3,23] Z (cC Z (fun hd=>?_) (fun hd=>?_))))))))
  ·have hlt:i<l.length:=by simpa using hd
   obtain ⟨b,o,cap2,us,e1,_,hrd,d,f,pv,c2,ffa,ffc,i2,rfl,hone,hrow,hrowp⟩:=Row.at hv (List.getElem?_eq_getElem hlt)
   cases e1
   have htk:l.take (i+1)=l.take i++[l[i]]:=by rw [List.take_add_one,List.getElem?_eq_getElem hlt]; rfl
   generalize l[i]=x at hrd hone hrow hrowp htk
   obtain ⟨fa,fcap,rfl,hlc2,hcm2,_⟩:=id hrow
   obtain ⟨pa,pcap,rfl,hplc,hpcm,_⟩:=id hrowp
   refine cK (xT (cS (cB (cS (cQ (sM Z (sM Z (sV (vI (k:=i) Z Z sl22 Z hlt Z) (sV (vF Z fa54_2 Z) (sV (vY Z ld48) ?_))))))))))
   refine sV (v_len Z Tryz.underlying48) (sV (v_gtr Z Z) (sM Z (st_cut (k:=16) (d:=41) (v:=.bool (decide (5<(x.formals.length:Int)) || decide (5<(x.parents.length:Int)))) (fun hcut=>bool_want (b:=decide (5<(x.formals.length:Int))) false (fun hg=>?_) (fun hg=>?_)) ?_)))
   ·refine st_sk Z Z hg ?_
    iterate 6 refine st_sk rfl rfl hg ?_
    refine sV (vQ (bO Z hg) Z) ?_
    exact hcut _ uG
   ·refine sG Z (bG Z hg) (vM Z) (sG Z (bG Z hg) (vM Z) (sG Z (bG Z hg) (vI (k:=i) Z Z sl22 Z hlt Z) (sG Z (bG Z hg) (vF Z fa54_3 Z) (sG Z (bG Z hg) (vY Z ld49) ?_))))
    refine sG Z (bG Z hg) (v_len Z Tryz.underlying49) (sG Z (bG Z hg) (v_gtr Z Z) (sV (vP (bO Z hg) Z) ?_))
    exact hcut _ uG
   refine sK [0,3,41] Z (cC Z (fun hq2=>?_) (fun hq2=>?_))
   ·refine cQ (sA Z (sK [2] Z (cT (xR (xW (xR (xR (xW (xR ?_)))))))))
    exact xt_rt rfl ⟨false,rfl,rfl,fun h=>by cases h⟩ sbq
   ·refine cK (xT (cQ (sA Z (sK [0,3,4] Z (cB (cd_lq (σ := Nat) (fun k=>[(0,.slice (some ⟨b,o,none⟩) l.length vc),(3,.int .i64 (i:Nat)),(4,.int .i64 (k:Nat))]) (fun _=>S::hr) (fun k=>k≤x.parents.length∧∀ p∈x.parents.take k,∀ a∈p.args,a.parts≤200∧a.depth≤1000000) (fun k=>x.parents.length - k) 0 ⟨Nat.zero_le _,fun p hp=>by simp at hp⟩ ?_))))))
    rintro k ⟨hk,hak⟩
    refine cS (cQ (sM Z (sM Z (sM Z (sV (vI (k:=i) Z Z sl22 Z hlt Z) (sV (vF Z fa54_3 Z) (sV (vY Z ld49) ?_)))))))
    refine sV (v_len Z Tryz.underlying49) (sV (v_lss Z Z) (sK [0,3,4,49] Z (cC Z (fun hdk=>?_) (fun hdk=>?_))))
    ·have hltk:k<x.parents.length:=by simpa using hdk
     obtain ⟨bq,oq,capq,us,e2,hus,hrdp,hXp⟩:=Row.at hrowp (List.getElem?_eq_getElem hltk)
     cases e2
     have htp:x.parents.take (k+1)=x.parents.take k++[x.parents[k]]:=by rw [List.take_add_one,List.getElem?_eq_getElem hltk]; rfl
     generalize x.parents[k]=p at hXp htp
     obtain ⟨y,p1,p2,p3,p4,rfl,hone2,hy⟩:=hXp
     obtain ⟨ya,yc,rfl,hyl,hym,_⟩:=id hy.form
     refine cK (xT (cS (cB (cQ (sM Z (sM Z (sV (vI (k:=i) Z Z sl22 Z hlt Z) (sV (vF Z fa54_3 Z) (sV (vY Z ld49) ?_)))))))))
     refine sM Z (sV (vI (k:=k) Z Z sl49 Z hltk Z) (sV (v_ldn Z ld79 Z hrdp) ?_))
     refine st_alc al79 fun b5=>?_
     refine st_stoW Z Z sz79 Z hone2 ?_
     refine sK [0,3,4,5] Z (cS (cQ (sV (vF Z fa79_1 Z) (sV (vY Z ld23) ?_))))
     refine sV (v_len Z Tryz.underlying23) (sV (v_gtr Z Z) (sK [0,3,4,5,63] Z (cC Z (fun hq3=>?_) (fun hq3=>?_))))
     ·refine cQ (sA Z (sK [2] Z (cT (xR (xW (xR (xR (xW (xW (xR (xR (xW ?_))))))))))))
      refine xR ?_
      exact xt_rt rfl ⟨false,rfl,rfl,fun h=>by cases h⟩ sbq
     ·refine cK (xT (cQ (sA Z (sK [0,3,4,5,6] Z (cB (cd_lq (σ := Nat) (fun m=>[(0,.slice (some ⟨b,o,none⟩) l.length vc),(3,.int .i64 (i:Nat)),(4,.int .i64 (k:Nat)),(5,.pointer (some ⟨b5,0,none⟩)),(6,.int .i64 (m:Nat))]) (fun _=>pt b5 (cl [sv p.name,.slice ya p.args.length yc,p1,p2,p3,p4] 79)::S::hr) (fun m=>m≤p.args.length∧∀ a∈p.args.take m,a.parts≤200∧a.depth≤1000000) (fun m=>p.args.length - m) 0 ⟨Nat.zero_le _,fun a ha=>by simp at ha⟩ ?_))))))
      rintro m ⟨hm,ham⟩
      refine cS (cQ (sM Z (sV (vF Z fa79_1 Z) (sV (vY Z ld23) ?_))))
      refine sV (v_len Z Tryz.underlying23) (sV (v_lss Z Z) (sK [0,3,4,5,6,68] Z (cC Z (fun hdm=>?_) (fun hdm=>?_))))
      ·have hltm:m<p.args.length:=by simpa using hdm
       obtain ⟨ba,oa,capa,us,e3,hus,hrda,hta⟩:=hy.at (List.getElem?_eq_getElem hltm)
       cases e3
       have hta2:p.args.take (m+1)=p.args.take m++[p.args[m]]:=by rw [List.take_add_one,List.getElem?_eq_getElem hltm]; rfl
       generalize p.args[m]=a at hta hta2
       have hli:=Light_ct hta (deep:=0) (by omega) (by omega)
       obtain ⟨z,rfl,hz⟩:=hta.out
       obtain ⟨za,zc,rfl,_⟩:=id hz.form
       unfold tyC at hrda hli
       refine cK (xT (cS (cB (cQ (sV (vF Z fa79_1 Z) (sV (vY Z ld23) ?_))))))
       refine sM Z (sV (vI (k:=m) Z Z sl23 Z hltm Z) (sV (v_ldn Z ld25 Z hrda) ?_))
       refine st_cl Z Z en12 Z (hli) ?_
       rintro u h' ⟨ok,rfl,rfl,hok⟩
       simp only [lC,lN]
       refine sV (v_not Z) (sK [0,3,4,5,6,77] Z ?_)
       cases ok with
       | false =>
        refine cd_true Z ?_
        refine cQ (sA Z (sK [2] Z (cT (xW (xR (xR (xW (xW (xR (xR (xW (xW ?_))))))))))))
        refine xR (xR (xW (xR ?_)))
        exact xt_rt rfl ⟨false,rfl,rfl,fun h=>by cases h⟩ sbq
       | true =>
        obtain ⟨g1,g2⟩:=hok rfl
        refine cd_false Z ?_
        refine cK (xB (xT (cR (sM Z (sV (v_add Z Z (by unfold I64 at *; omega)) (sA Z (sN (nK [0,3,4,5,6] Z (nx_xt ?_)))))))))
        refine xt_aq (m+1) ⟨hltm,fun a' ha'=>by
         rw [hta2] at ha'
         rcases List.mem_append.1 ha' with h | h
         ·exact ham a' h
         ·simp at h; subst h; exact ⟨g1,by omega⟩⟩ (Nat.sub_lt_sub_left hltm (Nat.lt_succ_self m))
      ·have hml2:m=p.args.length:=by
        have:¬ m<p.args.length:=by simpa using hdm
        omega
       rw [hml2,List.take_length] at ham
       refine cd_exit (xE (xE (xY (xB (xT (cR (sM Z (sV (v_add Z Z (by unfold I64 at *; omega)) (sA Z (sN (nK [0,3,4] Z (nx_xt ?_))))))))))))
       refine xt_aq (k+1) ⟨hltk,fun p' hp'=>by
        rw [htp] at hp'
        rcases List.mem_append.1 hp' with h | h
        ·exact hak p' h
        ·simp at h; subst h; exact ham⟩ (Nat.sub_lt_sub_left hltk (Nat.lt_succ_self k))
    ·have hkl:k=x.parents.length:=by
      have:¬ k<x.parents.length:=by simpa using hdk
      omega
     rw [hkl,List.take_length] at hak
     refine cd_exit (xE (xE (xY (xB (xT (cR (sM Z (sV (v_add Z Z (by unfold I64 at *; omega)) (sA Z (sN (nK [0,3] Z (nx_xt ?_))))))))))))
     refine xt_aq (i+1) ⟨hlt,fun x' hx'=>by
      rw [htk] at hx'
      rcases List.mem_append.1 hx' with h | h
      ·exact hal x' h
      ·simp at h; subst h; exact hak⟩ (Nat.sub_lt_sub_left hlt (Nat.lt_succ_self i))
  ·have hil:i=l.length:=by
    have:¬ i<l.length:=by simpa using hd
    omega
   rw [hil,List.take_length] at hal
   refine cd_exit (xE (xE (xY (xT (cQ (sA Z (sK [2] Z (cT ?_))))))))
   exact xt_rt Z ⟨true,Z,Z,fun _=>⟨hal,hl40⟩⟩ sbq
structure Given (l:KS) (c:Nm) (ts:List Kt):Prop where
 tiny:Tiny l
 len:l.length≤40
 chk:(kcheck l).1=0
 tys:∀ t∈ts,askedE l c [t]=0∧t.depth≤61
set_option maxHeartbeats 4000000 in
set_option maxRecDepth 100000 in
theorem lRight_ct (hv : ksysR S v l) (c : Nm) {tv : Value} (hts : Tys S tv ts) : Ct Tryz.prog 26 #[v, sv c, tv] [S] fun u h' => ∃ ok, u = .bool ok ∧ h' = [S] ∧ (ok = true → Given l c ts) := by
 have hml:maxLen=9223372036854775807:=rfl
 have hfw:=Few_ct hv
 obtain ⟨va,vc,rfl,hlc,hcm,_⟩:=id hv
 obtain ⟨ta,tc,rfl,htc,htm,_⟩:=id hts.form
 refine ct_of (n:=45) Tryz.func26 Z Z (len Z) fun hr w0=>?_
 refine cQ (sA Z (sN (nT (cS (cQ (sM Z (st_cl Z Z en11 Z (hfw) ?_)))))))
 rintro u h' ⟨ok,rfl,rfl,hok⟩
 simp only [lC,lN]
 refine sV (v_not Z) (sK [0,1,2,6,12] Z ?_)
 cases ok with
 | false =>
  refine cd_true Z ?_
  refine cQ (sA Z (sK [6] Z (cT (xR ?_))))
  exact xt_rt rfl ⟨false,rfl,rfl,fun h=>by cases h⟩ sbq
 | true =>
  obtain ⟨htn,hl40⟩:=hok rfl
  refine cd_false Z ?_
  refine cK (xT (cQ (sM Z (st_cl Z Z en13 Z (KCheck_ct hv htn) ?_))))
  rintro u h' ⟨rfl,rfl⟩
  simp only [lC,lN]
  refine sM Z (sV (v_extract Z Z) (sV (v_extract Z Z) (sA Z (sA Z (sK [0,1,2,6,7] Z (cS (cQ (sM Z (sV (v_neq Z Z) (sK [0,1,2,6,19] Z (cC Z (fun hc=>?_) (fun hc=>?_))))))))))))
  ·refine cQ (sA Z (sK [6] Z (cT (xR ?_))))
   exact xt_rt rfl ⟨false,rfl,rfl,fun h=>by cases h⟩ sbq
  ·have hc:(kcheck l).1=0:=by simpa using hc
   refine cK (xT (cS (cQ (sA Z (sK [0,1,2,6,9] Z (cB (cd_lq (σ := Nat) (fun i=>[(0,.slice va l.length vc),(1,sv c),(2,.slice ta ts.length tc),(9,.int .i64 (i:Nat))]) (fun _=>S::hr) (fun i=>i≤ts.length∧∀ t∈ts.take i,askedE l c [t]=0∧t.depth≤61) (fun i=>ts.length - i) 0 ⟨Nat.zero_le _,fun t ht=>by simp at ht⟩ ?_)))))))
   rintro i ⟨hi,hal⟩
   refine cS (cQ (sM Z (sM Z (sV (v_len Z Tryz.underlying23) (sV (v_lss Z Z) (sK [0,1,2,9,23] Z (cC Z (fun hd=>?_) (fun hd=>?_))))))))
   ·have hlt:i<ts.length:=by simpa using hd
    obtain ⟨ba,oa,capa,us,e3,hus,hrda,hta⟩:=hts.at (List.getElem?_eq_getElem hlt)
    cases e3
    have htk:ts.take (i+1)=ts.take i++[ts[i]]:=by rw [List.take_add_one,List.getElem?_eq_getElem hlt]; rfl
    generalize ts[i]=a at hta htk
    have hli:=Light_ct hta (deep:=0) (by omega) (by omega)
    have hri:=fun hd=>KRight_ct hv htn c hta hd
    obtain ⟨z,rfl,hz⟩:=hta.out
    obtain ⟨za,zc,rfl,_⟩:=id hz.form
    unfold tyC at hrda hli hri
    refine cK (xT (cS (cB (cQ (sM Z (sM Z (sV (vI (k:=i) Z Z sl23 Z hlt Z) (sV (v_ldn Z ld25 Z hrda) ?_))))))))
    refine st_cl Z Z en12 Z (hli) ?_
    rintro u h' ⟨ok,rfl,rfl,hok⟩
    simp only [lC,lN]
    refine sV (v_not Z) (sM Z ?_)
    cases ok with
    | false =>
     iterate 8 refine st_sk rfl rfl rfl ?_
     refine sV (vQ Z Z) (sK [0,1,2,9,41] Z (cd_true Z ?_))
     refine cQ (sA Z (sK [6] Z (cT (xW (xR (xR (xW (xR ?_))))))))
     exact xt_rt rfl ⟨false,rfl,rfl,fun h=>by cases h⟩ sbq
    | true =>
     obtain ⟨g1,g2⟩:=hok rfl
     refine sG Z Z (vM Z) (sG Z Z (vM Z) (sG Z Z (vM Z) (sG Z Z (vM Z) (sG Z Z (vI (k:=i) Z Z sl23 Z hlt Z) (sG Z Z (v_ldn Z ld25 Z hrda) ?_)))))
     refine st_grd Z Z (st_cl Z Z en17 Z ((hri (by omega))) ?_)
     rintro u h' ⟨rfl,rfl⟩
     simp only [lC,lN]
     refine sG Z Z (v_neq Z Z) (sV (vP Z Z) (sK [0,1,2,9,41] Z (cC Z (fun he=>?_) (fun he=>?_))))
     ·refine cQ (sA Z (sK [6] Z (cT (xW (xR (xR (xW (xR ?_))))))))
      exact xt_rt rfl ⟨false,rfl,rfl,fun h=>by cases h⟩ sbq
     ·have he:askedE l c [a]=0:=by simpa using he
      refine cK (xB (xT (cR (sM Z (sV (v_add Z Z (by unfold I64 at *; omega)) (sA Z (sN (nK [0,1,2,9] Z (nx_xt ?_)))))))))
      refine xt_aq (i+1) ⟨hlt,fun t' ht'=>by
       rw [htk] at ht'
       rcases List.mem_append.1 ht' with h | h
       ·exact hal t' h
       ·simp at h; subst h; exact ⟨he,by omega⟩⟩ (Nat.sub_lt_sub_left hlt (Nat.lt_succ_self i))
   ·have hil:i=ts.length:=by
     have:¬ i<ts.length:=by simpa using hd
     omega
    rw [hil,List.take_length] at hal
    refine cd_exit (xE (xE (xY (xT (cQ (sM Z (sV (v_len Z Tryz.underlying23) (sV (v_gtr Z Z) (sA Z (sK [6] Z (cT ?_)))))))))))
    exact xt_rt Z ⟨_,Z,Z,fun _=>⟨htn,hl40,hc,hal⟩⟩ sbq
def goesB (l:KS) (c:Nm) (s t:Kt):Bool:=(askedE l c [s,t] == 0) && decide ((whyC l (fmsOf l c) s t).1<11)
set_option maxRecDepth 100000 in
theorem goes_ct (hv:ksysR S v l) (htn:Tiny l) (c:Nm) {us ws:List Value} (hs:Ty S us s) (ht:Ty S ws t) (hds:s.depth≤1000000) (hdt:t.depth≤1000000) :
  Reads Tryz.prog 27 #[v,sv c,.agg us.toArray,.agg ws.toArray] [S] (.bool (goesB l c s t)):=by
 have hcf:=Conforms_ct hv htn c hs ht hds hdt
 obtain ⟨va,vc,rfl,hlc,hcm,_⟩:=id hv
 obtain ⟨x,rfl,hx⟩:=hs.out
 obtain ⟨xa,xc,rfl,_⟩:=id hx.form
 obtain ⟨y,rfl,hy2⟩:=ht.out
 obtain ⟨ya,yc,rfl,_⟩:=id hy2.form
 unfold tyC at hcf ⊢
 refine ct_of (n:=24) Tryz.func27 Z Z (len Z) fun hr w0=>?_
 refine cQ (st_bx Z Z fun b6=>?_)
 refine st_bx Z Z fun b7=>?_
 refine sA Z (sK [0,1,6,7,8] Z (cQ (sM Z (sM Z (sV (v_ldn Z ld25 Z rds_pt) ?_)))))
 refine sV (v_ldn Z ld25 Z rds_pt) ?_
 refine st_cl Z Z en33 Z (hcf) ?_
 rintro u h' ⟨rfl,rfl⟩
 simp only [lC,lN]
 refine sM Z (sV (v_extract Z Z) (sV (v_extract Z Z) (sA Z (sA Z (sK [8,9,10] Z (cQ (sM Z (sV (v_eql Z Z) (sM Z (st_cut (k:=5) (d:=23) (v:=.bool ((askedE l c [s,t] == 0) && ((askedE l c [s,t] == 0) && decide ((whyC l (fmsOf l c) s t).1<11)))) (fun hcut=>bool_want (b:=(askedE l c [s,t] == 0)) true (fun hg=>?_) (fun hg=>?_)) ?_))))))))))
 ·refine st_sk Z Z hg ?_
  refine sV (vP (bO Z hg) Z) ?_
  exact hcut _ uG
 ·refine sG Z (bG Z hg) (vM Z) (sV (vQ (bO Z hg) Z) ?_)
  exact hcut _ uG
 rw [show ((askedE l c [s,t] == 0) && ((askedE l c [s,t] == 0) && decide ((whyC l (fmsOf l c) s t).1<11)))=goesB l c s t by unfold goesB; rw [← Bool.and_assoc,Bool.and_self]]
 refine sA Z (sK [8] Z (cT ?_))
 exact xt_rt Z ⟨Z,Z⟩ sbq
end
end Go.Hr
namespace Go.Ck
open Go Go.RowKit Go.ChangeShapes Go.WideShapes
section
variable {H:Type} {enc:TypeId×Value→H} {P:Program} {W:World}
theorem choose_rows {α : Type} {Q : Nat → α → Prop} : ∀ n : Nat, (∀ i, i < n → ∃ x, Q i x) → ∃ xs : List α, xs.length = n ∧ ∀ i x, xs[i]? = some x → Q i x
 | 0,_=>⟨[],rfl,fun i x h=>by simp at h⟩
 | n + 1, h => by
  obtain ⟨xs,h1,h2⟩:=choose_rows n fun i hi=>h i (by omega)
  obtain ⟨x,hx⟩:=h n (by omega)
  refine ⟨xs++[x],by simp [h1],fun i y hy=>?_⟩
  by_cases hi:i<xs.length
  ·rw [List.getElem?_append_left hi] at hy; exact h2 i y hy
  ·rw [List.getElem?_append_right (by omega)] at hy
   have h0:i - xs.length=0:=by
    have:=(List.getElem?_eq_some_iff.1 hy).1
    simp at this; omega
   rw [h0] at hy
   simp at hy
   subst hy
   have:i=n:=by omega
   rw [this]; exact hx
theorem row_gd {α : Type} {X : List Value → α → Prop} {n : Nat} {t e : TypeId} {v : Value} (h : Gd enc P W n t [v]) (hu : P.underlying t = some (.slice e)) (hsz : 0 < P.cellsOf e) (hX : ∀ m us, n = m + 1 → Gd enc P W m e us → ∃ x, X us x) :
  ∃ xs:List α,Row (old W) (P.cellsOf e) X v xs∧xs.length * P.bytesOf e≤reachBytes:=by
 rcases h.slice hu hsz with h0 | ⟨a,len,cap,m,hn,h1,h2,h3,h4,h5⟩
 ·obtain rfl:=(List.cons.inj h0).1
  exact ⟨[],Row.nil,by simp⟩
 ·obtain rfl:=(List.cons.inj h1).1
  obtain ⟨xs,g1,g2⟩:=choose_rows (Q:=fun i (x : α)=>∃ b o us,a=⟨b,o,none⟩∧us.length=P.cellsOf e∧Rds (old W) b (o+i * P.cellsOf e) us∧X us x) len fun i hi=>by
   obtain ⟨b,o,us,k1,k2,k3,k4⟩:=h5 i hi
   obtain ⟨x,hx⟩:=hX m us hn k4
   exact ⟨x,b,o,us,k1,k2,k3,hx⟩
  subst g1
  refine ⟨xs,⟨some a,cap,rfl,h2,h3,(fun h=>by cases h),fun i x hi=>?_⟩,h4⟩
  obtain ⟨b,o,us,k1,k2,k3,k4⟩:=g2 i x hi
  exact ⟨b,o,us,by rw [k1],k2,k3,k4⟩
theorem gd_str {n:Nat} {t:TypeId} {cs:List Value} (h:Gd enc P W n t cs) (hu:P.underlying t=some .string):∃ s:List UInt8,cs=[sv s]:=by
 obtain ⟨x,h,_⟩:=h
 cases n with
 | zero=>simp [DataW.trod] at h
 | succ n =>
  obtain ⟨q,rfl,_⟩:=DataW.trod_string hu h
  exact ⟨q.data.toList,Z⟩
theorem gd_bool {n:Nat} {t:TypeId} {cs:List Value} (h:Gd enc P W n t cs) (hu:P.underlying t=some .bool):∃ b,cs=[.bool b]:=by
 obtain ⟨x,h,_⟩:=h
 cases n with
 | zero=>simp [DataW.trod] at h
 | succ n =>
  obtain ⟨q,rfl,_⟩:=DataW.trod_bool hu h
  exact ⟨_,Z⟩
theorem gd_int {n:Nat} {t:TypeId} {k:IntKind} {cs:List Value} (h:Gd enc P W n t cs) (hu:P.underlying t=some (.int k)):∃ q,cs=[.int k q]:=by
 obtain ⟨x,h,_⟩:=h
 cases n with
 | zero=>simp [DataW.trod] at h
 | succ n =>
  obtain ⟨q,rfl,_⟩:=DataW.trod_int hu h
  exact ⟨_,Z⟩
end
end Go.Ck
namespace Go.Hr
open Go Go.RowKit Go.ChangeShapes Go.WideShapes Go.Ck Go.Proofs Go.Proofs.YtaohbfnepjjdgaaGreat
section
variable {H:Type} {enc:TypeId×Value→H} {W:World}
theorem cl25:Tryz.prog.cellsOf 25=5:=by kernel_rfl
theorem cl94:Tryz.prog.cellsOf 94=2:=by kernel_rfl
theorem cl79:Tryz.prog.cellsOf 79=6:=by kernel_rfl
theorem cl54:Tryz.prog.cellsOf 54=7:=by kernel_rfl
theorem cl61:Tryz.prog.cellsOf 61=2:=by kernel_rfl
theorem cl9:Tryz.prog.cellsOf 9=1:=by kernel_rfl
theorem by25:Tryz.prog.bytesOf 25=56:=by kernel_rfl
theorem list5 {us:List Value} (h:us.length=5):∃ a b c d e,us=[a,b,c,d,e]:=by
 match us,h with
 | [a,b,c,d,e],_=>exact ⟨a,b,c,d,e,rfl⟩
theorem list6 {us:List Value} (h:us.length=6):∃ a b c d e f,us=[a,b,c,d,e,f]:=by
 match us,h with
 | [a,b,c,d,e,f],_=>exact ⟨a,b,c,d,e,f,rfl⟩
theorem list7 {us:List Value} (h:us.length=7):∃ a b c d e f g,us=[a,b,c,d,e,f,g]:=by
 match us,h with
 | [a,b,c,d,e,f,g],_=>exact ⟨a,b,c,d,e,f,g,rfl⟩
theorem list2 {us:List Value} (h:us.length=2):∃ a b,us=[a,b]:=by
 match us,h with
 | [a,b],_=>exact ⟨a,b,rfl⟩
set_option maxRecDepth 100000 in
theorem ty_of_gd:∀ (n:Nat) (us:List Value),Gd enc Tryz.prog W n 25 us→∃ t,Ty (old W) us t:=by
 intro n
 induction n using Nat.strongRecOn with
 | _ n ih =>
  intro us h
  obtain ⟨m,rfl,hl,hf⟩:=h.struct Tryz.underlying25
  obtain ⟨a,b,c,d,e,rfl⟩:=list5 (by rw [hl,cl25])
  have f0:=hf 0 _ rfl
  have f1:=hf 1 _ rfl
  have f2:=hf 2 _ rfl
  have f3:=hf 3 _ rfl
  have f4:=hf 4 _ rfl
  have f0:Gd enc Tryz.prog W m 3 [a]:=f0
  have f1:Gd enc Tryz.prog W m 9 [b]:=f1
  have f2:Gd enc Tryz.prog W m 23 [c]:=f2
  have f3:Gd enc Tryz.prog W m 4 [d]:=f3
  have f4:Gd enc Tryz.prog W m 4 [e]:=f4
  obtain ⟨k,hk⟩:=gd_int f0 Tryz.underlying3
  obtain ⟨nm,hnm⟩:=gd_str f1 Tryz.underlying9
  obtain ⟨vo,hvo⟩:=gd_bool f3 Tryz.underlying4
  obtain ⟨se,hse⟩:=gd_bool f4 Tryz.underlying4
  cases hk; cases hnm; cases hvo; cases hse
  obtain ⟨ts,hr,hb⟩:=row_gd (X:=Ty (old W)) f2 Tryz.underlying23 (by rw [cl25]; decide) fun m' us' hm hg=>ih m' (by omega) us' hg
  rw [cl25] at hr
  rw [by25] at hb
  exact ⟨.mk k nm ts vo se,Ty.of (t:=.mk k nm ts vo se) Z ⟨hr,hb⟩⟩
set_option maxRecDepth 100000 in
theorem tys_of_gd {n:Nat} {v:Value} (h:Gd enc Tryz.prog W n 23 [v]):∃ ts,Tys (old W) v ts:=by
 obtain ⟨ts,hr,hb⟩:=row_gd (X:=Ty (old W)) h Tryz.underlying23 (by rw [cl25]; decide) fun m' us' hm hg=>ty_of_gd m' us' hg
 rw [cl25] at hr
 rw [by25] at hb
 exact ⟨ts,hr,hb⟩
set_option maxRecDepth 100000 in
theorem fm_of_gd {n:Nat} {us:List Value} (h:Gd enc Tryz.prog W n 94 us):∃ f,fmC us f:=by
 obtain ⟨m,rfl,hl,hf⟩:=h.struct Tryz.underlying94
 obtain ⟨a,b,rfl⟩:=list2 (by rw [hl,cl94])
 have f0:Gd enc Tryz.prog W m 9 [a]:=hf 0 _ rfl
 have f1:Gd enc Tryz.prog W m 9 [b]:=hf 1 _ rfl
 obtain ⟨x,hx⟩:=gd_str f0 Tryz.underlying9
 obtain ⟨y,hy⟩:=gd_str f1 Tryz.underlying9
 cases hx; cases hy
 exact ⟨⟨x,y⟩,Z⟩
set_option maxRecDepth 100000 in
theorem fms_of_gd {n:Nat} {v:Value} (h:Gd enc Tryz.prog W n 48 [v]):∃ F,Row (old W) 2 fmC v F:=by
 obtain ⟨F,hr,_⟩:=row_gd (X:=fmC) h Tryz.underlying48 (by rw [cl94]; decide) fun m' us' hm hg=>fm_of_gd hg
 rw [cl94] at hr
 exact ⟨F,hr⟩
theorem cl_pos {e:TypeId} (h:Nat.blt 0 (Tryz.prog.cellsOf e)=true):0<Tryz.prog.cellsOf e:=Nat.lt_of_succ_le (by simpa [Nat.blt] using h)
theorem one_slice {n:Nat} {t e:TypeId} {v:Value} (h:Gd enc Tryz.prog W n t [v]) (hu:Tryz.prog.underlying t=some (.slice e)) (hsz:0<Tryz.prog.cellsOf e):∃ a n c,v = .slice a n c:=by
 rcases h.slice hu hsz with h0 | ⟨a,len,cap,m,hn,h1,_⟩
 ·obtain rfl:=(List.cons.inj h0).1; exact ⟨_,_,_,rfl⟩
 ·obtain rfl:=(List.cons.inj h1).1; exact ⟨_,_,_,rfl⟩
set_option maxRecDepth 100000 in
theorem kpar_of_gd {n:Nat} {us:List Value} (h:Gd enc Tryz.prog W n 79 us):∃ p,kparC (old W) us p:=by
 obtain ⟨m,rfl,hl,hf⟩:=h.struct Tryz.underlying79
 obtain ⟨a,b,c,d,e,f,rfl⟩:=list6 (by rw [hl,cl79])
 have f0:Gd enc Tryz.prog W m 9 [a]:=hf 0 _ rfl
 have f1:Gd enc Tryz.prog W m 23 [b]:=hf 1 _ rfl
 have f2:Gd enc Tryz.prog W m 77 [c]:=hf 2 _ rfl
 have f3:Gd enc Tryz.prog W m 50 [d]:=hf 3 _ rfl
 have f4:Gd enc Tryz.prog W m 50 [e]:=hf 4 _ rfl
 have f5:Gd enc Tryz.prog W m 50 [f]:=hf 5 _ rfl
 obtain ⟨x,hx⟩:=gd_str f0 Tryz.underlying9
 cases hx
 obtain ⟨ts,hts⟩:=tys_of_gd f1
 obtain ⟨_,_,_,rfl⟩:=one_slice f2 Tryz.underlying77 (cl_pos (by kernel_rfl))
 obtain ⟨_,_,_,rfl⟩:=one_slice f3 Tryz.underlying50 (by rw [cl9]; decide)
 obtain ⟨_,_,_,rfl⟩:=one_slice f4 Tryz.underlying50 (by rw [cl9]; decide)
 obtain ⟨_,_,_,rfl⟩:=one_slice f5 Tryz.underlying50 (by rw [cl9]; decide)
 exact ⟨⟨x,ts⟩,b,_,_,_,_,Z,by simp only [List.all_cons,List.all_nil,hts.one]; rfl,hts⟩
set_option maxRecDepth 100000 in
theorem kcls_of_gd {n:Nat} {us:List Value} (h:Gd enc Tryz.prog W n 54 us):∃ x,kclsC (old W) us x:=by
 obtain ⟨m,rfl,hl,hf⟩:=h.struct Tryz.underlying54
 obtain ⟨a,b,c,d,e,f,g,rfl⟩:=list7 (by rw [hl,cl54])
 have f0:Gd enc Tryz.prog W m 9 [a]:=hf 0 _ rfl
 have f1:Gd enc Tryz.prog W m 4 [b]:=hf 1 _ rfl
 have f2:Gd enc Tryz.prog W m 48 [c]:=hf 2 _ rfl
 have f3:Gd enc Tryz.prog W m 49 [d]:=hf 3 _ rfl
 have f4:Gd enc Tryz.prog W m 50 [e]:=hf 4 _ rfl
 have f5:Gd enc Tryz.prog W m 51 [f]:=hf 5 _ rfl
 have f6:Gd enc Tryz.prog W m 52 [g]:=hf 6 _ rfl
 obtain ⟨x,hx⟩:=gd_str f0 Tryz.underlying9
 cases hx
 obtain ⟨q,hq⟩:=gd_bool f1 Tryz.underlying4
 cases hq
 obtain ⟨F,hF⟩:=fms_of_gd f2
 obtain ⟨Pl,hP,_⟩:=row_gd (X:=kparC (old W)) f3 Tryz.underlying49 (by rw [cl79]; decide) fun m' us' hm hg=>kpar_of_gd hg
 rw [cl79] at hP
 obtain ⟨_,_,_,rfl⟩:=one_slice f4 Tryz.underlying50 (by rw [cl9]; decide)
 obtain ⟨fa,fn,fc,rfl⟩:=one_slice f5 Tryz.underlying51 (cl_pos (by kernel_rfl))
 obtain ⟨_,_,_,rfl⟩:=one_slice f6 Tryz.underlying52 (cl_pos (by kernel_rfl))
 exact ⟨⟨x,F,Pl,fn⟩,_,c,d,_,fa,fc,_,Z,by simp only [List.all_cons,List.all_nil,hF.one,hP.one]; rfl,hF,hP⟩
set_option maxRecDepth 100000 in
theorem ksys_of_gd {n:Nat} {v:Value} (h:Gd enc Tryz.prog W n 22 [v]):∃ l,ksysR (old W) v l:=by
 obtain ⟨l,hr,_⟩:=row_gd (X:=kclsC (old W)) h Tryz.underlying22 (by rw [cl54]; decide) fun m' us' hm hg=>kcls_of_gd hg
 rw [cl54] at hr
 exact ⟨l,hr⟩
set_option maxRecDepth 100000 in
theorem nms_of_gd {n:Nat} {v:Value} (h:Gd enc Tryz.prog W n 50 [v]):∃ ns,nmsR (old W) v ns:=by
 obtain ⟨ns,hr,_⟩:=row_gd (X:=strC) h Tryz.underlying50 (by rw [cl9]; decide) fun m' us' hm hg=>by
  obtain ⟨x,rfl⟩:=gd_str hg Tryz.underlying9
  exact ⟨x,Z⟩
 rw [cl9] at hr
 exact ⟨ns,hr⟩
set_option maxRecDepth 100000 in
theorem reason_of_gd {n:Nat} {us:List Value} (h:Gd enc Tryz.prog W n 61 us):∃ rule rv rn,us=[.int .i64 rule,rv]∧nmsR (old W) rv rn:=by
 obtain ⟨m,rfl,hl,hf⟩:=h.struct Tryz.underlying61
 obtain ⟨a,b,rfl⟩:=list2 (by rw [hl,cl61])
 have f0:Gd enc Tryz.prog W m 3 [a]:=hf 0 _ rfl
 have f1:Gd enc Tryz.prog W m 50 [b]:=hf 1 _ rfl
 obtain ⟨k,hk⟩:=gd_int f0 Tryz.underlying3
 cases hk
 obtain ⟨ns,hn⟩:=nms_of_gd f1
 exact ⟨k,b,ns,Z,hn⟩
def partK:List TypeId:=[3,4,9,23,25,48,49,50,51,52,54,61,77,79,94,239,240,242,243,245,247,249,252,254]
theorem gd_of {v:Value} {t:TypeId} {d:DataW H} {ps:List MemPlace} {us:List Value} (h:DataW.Trod enc Tryz.prog W 0 (fun _=>true) true t v d ps) (hc:v.cells.toList=us) (hz:∀ n∈d.weights Tryz.prog t,n≤reachBytes):∃ n,Gd enc Tryz.prog W n t us:=by
 obtain ⟨fuel,h⟩:=h
 exact ⟨fuel,(d,ps),by rw [← hc]; exact h,hz⟩
end
end Go.Hr
namespace Go.Hr
open Go Go.RowKit Go.Ck Go.Proofs Go.Proofs.YtaohbfnepjjdgaaGreat Fx
attribute [local irreducible] Go.Ck.Sub St Cd Xt Nx DrL LsW
section
variable {S T N R:Res} {v:Value} {l:KS} {s t:Kt} {ts:List Kt} {all:List (Nm×Own)} {x:KC}
theorem whyK_few {c : Nm} : (WhyK l c s t).1.2.length ≤ l.length + 1 := by
 unfold WhyK
 split
 ·simp
 ·show (whyC l (fmsOf l c) s t).2.length≤_
  rw [whyC_way]
  split
  ·have h:=shortR_len (ksys l) t.name (ctK (fmsOf l c) s).name
   have h2:(ksys l).length=l.length:=by unfold ksys; simp
   unfold wayK okL
   split
   ·omega
   ·simp
  ·simp
end
end Go.Hr
namespace Go.Hr
open Go Go.RowKit Go.Ck Go.Proofs Go.Proofs.YtaohbfnepjjdgaaGreat
section
variable {S:Res} {l:KS} {all:List (Nm×Own)} {x:KC} {F:List Fm} {s t u:Kt} {c:Nm} {ts:List Kt}
theorem rinst_anc (h:KRight l all) {a:Nm} (ha:a≠root):rinst l all u a=(if anc all u.name a=true then instA l all u.name a u.args else [],anc all u.name a):=by
 unfold rinst
 rw [if_neg ha]
 by_cases hr:u.name=root
 ·rw [if_pos hr,hr,h.anc_root]; rfl
 ·rw [if_neg hr]
  unfold anc instA insT
  cases (alook all u.name).bind (· a) with
  | none=>rfl
  | some ts=>rfl
theorem why_whyE (hK : KRight l all) (hx : x ∈ l) (hs : s.inner l x.formals = 0) (ht : t.inner l x.formals = 0) : (whyC l x.formals s t).1 = whyE l all x.formals s t := by
 unfold whyC whyE
 simp only [Bool.and_eq_true,Bool.or_eq_true,beq_iff_eq,Bool.not_eq_true',or_assoc,and_assoc]
 by_cases h1:s.kind=t.kind∧plainK s.kind=true
 ·rw [if_pos h1,if_pos h1]
 rw [if_neg h1,if_neg h1]
 by_cases h2:s.kind=0∧t.void=true
 ·rw [if_pos h2,if_pos h2]
 rw [if_neg h2,if_neg h2]
 by_cases h3:plainK s.kind=true∨plainK t.kind=true∨t.kind=0
 ·rw [if_pos h3,if_pos h3]
 rw [if_neg h3,if_neg h3]
 by_cases h4:(s.kind=0∨s.void=true)∧t.void=false
 ·rw [if_pos h4,if_pos h4]
 rw [if_neg h4,if_neg h4]
 by_cases h5:s.sep=true∧t.sep=false
 ·rw [if_pos h5,if_pos h5]
 rw [if_neg h5,if_neg h5]
 by_cases h6:t.kind=3∧t.name=root
 ·rw [if_pos h6,if_pos h6]
 rw [if_neg h6,if_neg h6]
 by_cases h7:t.kind=4∧s.kind=4∧s.name=t.name
 ·rw [if_pos h7,if_pos h7]
 rw [if_neg h7,if_neg h7]
 by_cases h8:t.kind=4
 ·rw [if_pos h8,if_pos h8]
 rw [if_neg h8,if_neg h8]
 have hsn:isNmd s=true:=by
  rcases inner_kinds hs with ⟨h | h | h,_⟩ | h | h
  ·exfalso
   cases hv:t.void with
   | false=>exact h4 ⟨.inl h,hv⟩
   | true=>exact h2 ⟨h,hv⟩
  ·exact absurd (Or.inl (by rw [h]; rfl)) h3
  ·exact absurd (Or.inl (by rw [h]; rfl)) h3
  ·exact nmd_iff.2 (.inl h)
  ·exact nmd_iff.2 (.inr h)
 have htk:t.kind=3:=by
  rcases inner_kinds ht with ⟨h | h | h,_⟩ | h | h
  ·exact absurd (Or.inr (Or.inr h)) h3
  ·exact absurd (Or.inr (Or.inl (by rw [h]; rfl))) h3
  ·exact absurd (Or.inr (Or.inl (by rw [h]; rfl))) h3
  ·exact h
  ·exact absurd h h8
 have hne:t.name≠root:=fun h=>h6 ⟨htk,h⟩
 obtain ⟨g1,g2,_⟩:=ctK_name (F:=x.formals) (nmd_iff.1 hsn)
 rw [inst_eq hK (ct_right hK hx hs (rcB_of hs hsn)).1,rinst_anc hK hne,g1,g2]
 cases ha:anc all (ctName x.formals s) t.name with
 | false=>simp
 | true =>
  simp only [sames_iff,if_true,ne_eq,not_true_eq_false,if_false,Bool.true_eq_false]
  by_cases h9:instA l all (ctName x.formals s) t.name (ctArgs s)=t.args
  ·rw [if_pos h9,if_pos h9]
  ·rw [if_neg h9,if_neg h9]
theorem Given.at (g:Given l c ts) {t0:Kt} (h0:t0∈ts):∃ x all,KRight l all∧x∈l∧kfind l c=some x∧∀ t∈ts,rightK l x.formals t=0:=by
 obtain ⟨x,all,hA⟩:=askedE_zero.1 (g.tys t0 h0).1
 refine ⟨x,all,hA.right,(kfind_some hA.cls).2,hA.cls,fun t ht=>?_⟩
 obtain ⟨x',all',hA'⟩:=askedE_zero.1 (g.tys t ht).1
 have:x'=x:=by have h:=hA.cls; rw [hA'.cls] at h; exact Option.some.inj h
 subst this
 exact hA'.tys t (by simp)
theorem goesB_iff (hK : KRight l all) (hx : kfind l c = some x) (hs : rightK l x.formals s = 0) (ht : rightK l x.formals t = 0) : goesB l c s t = true ↔ Goes l all x.formals s t := by
 have hxl:=(kfind_some hx).2
 have ha:askedE l c [s,t]=0:=askedE_zero.2 ⟨x,all,hK,hx,fun t' h=>by
  rcases List.mem_cons.1 h with rfl | h
  ·exact hs
  ·rcases List.mem_cons.1 h with rfl | h
   ·exact ht
   ·cases h⟩
 unfold goesB
 rw [ha,fmsOf_some hx,why_whyE hK hxl (inner_zero hs) (inner_zero ht)]
 simp only [beq_self_eq_true,Bool.true_and,decide_eq_true_eq]
 exact whyE_goes (inner_zero hs) (inner_zero ht)
theorem goesB_self (hK:KRight l all) (hx:kfind l c=some x) (hs:rightK l x.formals s=0):goesB l c s s=(s.kind != 0):=by
 have h:=(goesB_iff hK hx hs hs).trans (hK.goes_refl (kfind_some hx).2 (inner_zero hs))
 rw [Bool.eq_iff_iff,h]
 simp
theorem goesB_trans (hK:KRight l all) (hx:kfind l c=some x) (hs:rightK l x.formals s=0) (ht:rightK l x.formals t=0) (hu:rightK l x.formals u=0) (h1:goesB l c s t=true) (h2:goesB l c t u=true):goesB l c s u=true :=
 (goesB_iff hK hx hs hu).2 (hK.goes_trans (inner_zero hs) (inner_zero ht) (inner_zero hu) ((goesB_iff hK hx hs ht).1 h1) ((goesB_iff hK hx ht hu).1 h2))
theorem goesB_anti (hK:KRight l all) (hx:kfind l c=some x) (hs:rightK l x.formals s=0) (ht:rightK l x.formals t=0) (h1:goesB l c s t=true) (h2:goesB l c t s=true):s.same t=true :=
 (same_iff s t).2 (hK.goes_antisymm (inner_zero hs) (inner_zero ht) ((goesB_iff hK hx hs ht).1 h1) ((goesB_iff hK hx ht hs).1 h2))
theorem ok_star {P:Program} {k:FuncId} {args:Array Value} {L:SH} {G:Prop} (h:Ct P k args [Res.star L] fun u h'=>∃ ok,u = .bool ok∧h'=[Res.star L]∧(ok=true→G)):Ct P k args L fun u h'=>∃ ok,u = .bool ok∧h'=L∧(ok=true→G):=fun hr w hh =>
 (h hr w (holds_star1.2 hh)).mono fun _ _ ⟨u,h',he,⟨ok,hu,hT,hG⟩,hH,hS⟩=>⟨u,L,he,⟨ok,hu,rfl,hG⟩,by subst hT; exact holds_star1.1 hH,hS⟩
theorem tys_three {b:Nat} {us ws zs:List Value} (hu:Ty S us s) (hw:Ty S ws t) (hz:Ty S zs u) (hok:∃ f,(VR (.slice (some ⟨b,0,none⟩) 3 3) 25 5 [us,ws,zs]).ok f):Tys (Res.star [VR (.slice (some ⟨b,0,none⟩) 3 3) 25 5 [us,ws,zs],S]) (.slice (some ⟨b,0,none⟩) 3 3) [s,t,u]:=
 ⟨row_vr hok rfl (rd_in .here) fun i us' x h1 h2=>by
  match i,h1,h2 with
  | 0,h1,h2=>cases h1; cases h2; exact hu.mono (rd_in (.there .here))
  | 1,h1,h2=>cases h1; cases h2; exact hw.mono (rd_in (.there .here))
  | 2,h1,h2=>cases h1; cases h2; exact hz.mono (rd_in (.there .here)),by show 3 * 56≤reachBytes; decide⟩
end
end Go.Hr
namespace Go.Hr
open Go Go.RowKit Go.Ck Go.Proofs Go.Proofs.YtaohbfnepjjdgaaGreat
section
variable {l:KS} {F:List Fm} {s t:Kt} {c:Nm}
theorem why_inst (h:(((whyC l F s t).1 == 5) || ((whyC l F s t).1 == 15))=true) (ht:t.inner l F=0):(instK l (ctK F s) t.name).2=0∧t.name≠root:=by
 unfold whyC at h
 by_cases h1:((s.kind == t.kind) && plainK s.kind)=true
 ·rw [if_pos h1] at h; simp at h
 rw [if_neg h1] at h
 by_cases h2:((s.kind == 0) && t.void)=true
 ·rw [if_pos h2] at h; simp at h
 rw [if_neg h2] at h
 by_cases h3:((plainK s.kind || plainK t.kind) || (t.kind == 0))=true
 ·rw [if_pos h3] at h; simp at h
 rw [if_neg h3] at h
 by_cases h4:(((s.kind == 0) || s.void) && !t.void)=true
 ·rw [if_pos h4] at h; simp at h
 rw [if_neg h4] at h
 by_cases h5:(s.sep && !t.sep)=true
 ·rw [if_pos h5] at h; simp at h
 rw [if_neg h5] at h
 by_cases h6:((t.kind == 3) && (t.name == root))=true
 ·rw [if_pos h6] at h; simp at h
 rw [if_neg h6] at h
 by_cases h7:(((t.kind == 4) && (s.kind == 4)) && (s.name == t.name))=true
 ·rw [if_pos h7] at h; simp at h
 rw [if_neg h7] at h
 by_cases h8:(t.kind == 4)=true
 ·rw [if_pos h8] at h; simp at h
 rw [if_neg h8] at h
 by_cases h9:(instK l (ctK F s) t.name).2≠0
 ·rw [if_pos h9] at h; simp at h
 refine ⟨by simpa using h9,fun hr=>?_⟩
 rcases inner_kinds ht with ⟨g | g | g,_⟩ | g | g
 ·exact h3 (by rw [g]; simp)
 ·exact h3 (by rw [g]; simp [plainK])
 ·exact h3 (by rw [g]; simp [plainK])
 ·exact h6 (by rw [g,hr]; simp)
 ·exact h8 (by rw [g]; rfl)
theorem inst_way {u:Kt} {a:Nm} (h:(instK l u a).2=0) (ha:a≠root):wayE (ksys l) u.name a=0:=by
 unfold instK at h
 split at h
 ·simp at h
 split at h
 ·simp at h
 split at h
 ·simp at h
 ·rename_i h4
  exact Decidable.not_not.1 h4
theorem way_zero {a:Nm} (h:wayE (ksys l) c a=0):wayC (ksys l) c a (wayK l c a)=0∧0<(wayK l c a).length:=by
 have hw:=wayK_way h
 have hr:rightE (ksys l) [c,a]=0:=by
  unfold wayE at h
  split at h
  ·assumption
  ·rename_i h1; exact absurd h h1
 refine ⟨?_,?_⟩
 ·unfold wayC
  rw [if_pos hr,if_pos (wayOk_iff.2 hw)]
 ·cases hk:wayK l c a with
  | nil=>rw [hk] at hw; exact hw.elim
  | cons _ _=>simp
theorem reasons (g : Given l c [s, t]) : (WhyK l c s t).2 = 0 ∧ chkW l c s t (WhyK l c s t).1.1 (WhyK l c s t).1.2 = 0 ∧ (∀ rule rn, (chkW l c s t rule rn == 0) = true → rule = (WhyK l c s t).1.1) ∧ goesB l c s t = decide ((WhyK l c s t).1.1 < 11) ∧ (((WhyK l c s t).1.1 != 5) = false → 0 < (WhyK l c s t).1.2.length) := by
 obtain ⟨x,all,hK,hx,hxc,hr0⟩:=g.at (t0:=s) (by simp)
 have hs:=hr0 s (by simp)
 have ht:=hr0 t (by simp)
 have ha:askedE l c [s,t]=0:=askedE_zero.2 ⟨x,all,hK,hxc,hr0⟩
 have hw:WhyK l c s t=(whyC l x.formals s t,0):=by
  unfold WhyK
  rw [if_neg (by rw [ha]; simp),fmsOf_some hxc]
 have h515:(((whyC l x.formals s t).1 == 5) || ((whyC l x.formals s t).1 == 15))=true→wayC (ksys l) (ctK x.formals s).name t.name (whyC l x.formals s t).2=0∧0<(whyC l x.formals s t).2.length:=fun h=>by
  rw [whyC_way,if_pos h]
  obtain ⟨h1,h2⟩:=why_inst h (inner_zero ht)
  exact way_zero (inst_way h1 h2)
 rw [hw]
 refine ⟨Z,?_,fun rule rn h=>?_,?_,fun h=>?_⟩
 ·unfold chkW
  rw [if_neg (by rw [ha]; simp),fmsOf_some hxc,if_neg (by simp)]
  by_cases h:(((whyC l x.formals s t).1 == 5) || ((whyC l x.formals s t).1 == 15))=true
  ·have hn:¬ ((whyC l x.formals s t).1 != 5 && (whyC l x.formals s t).1 != 15)=true:=by
    simp only [Bool.or_eq_true,beq_iff_eq] at h
    rcases h with h | h <;> rw [h] <;> decide
   rw [if_neg hn,(h515 h).1]; rfl
  ·have hn:((whyC l x.formals s t).1 != 5 && (whyC l x.formals s t).1 != 15)=true:=by
    simp only [Bool.or_eq_true,beq_iff_eq,not_or] at h
    simp [bne_iff_ne,h.1,h.2]
   rw [if_pos hn,whyC_way,if_neg h]; rfl
 ·unfold chkW at h
  rw [if_neg (by rw [ha]; simp),fmsOf_some hxc] at h
  by_cases h1:rule=(whyC l x.formals s t).1
  ·exact h1
  ·rw [if_pos h1] at h; simp at h
 ·unfold goesB
  rw [ha,fmsOf_some hxc]; rfl
 ·exact (h515 (by
   have:(whyC l x.formals s t).1=5:=by simpa using h
   rw [this]; rfl)).2
end
end Go.Hr
namespace Go.Hr
open Go Go.RowKit Go.Ck Go.Proofs Go.Proofs.YtaohbfnepjjdgaaGreat Fx
attribute [local irreducible] Go.Ck.Sub St Cd Xt Nx DrL LsW
section
variable {S T N R:Res} {v:Value} {l:KS} {s t:Kt} {ts:List Kt} {all:List (Nm×Own)} {x:KC}
set_option maxHeartbeats 8000000 in
set_option maxRecDepth 100000 in
theorem kindReasons_ct (hv : ksysR S v l) (c : Nm) {us ws : List Value} (hs : Ty S us s) (ht : Ty S ws t) {rule : Int} {rv : Value} {rn : List Nm} (hrw : nmsR S rv rn) : Ct Tryz.prog 9 #[v, sv c, .agg us.toArray, .agg ws.toArray, .agg #[.int .i64 rule, rv]] [S] fun u h' => u = .bool true ∧ h' = [S] := by
 have hml:maxLen=9223372036854775807:=rfl
 have hlr:=fun b hok=>ok_star (lRight_ct (hv.mono (rd_in (.there .here))) c (tys_two (b:=b) hs ht hok))
 have h27:=fun htn hds hdt=>goes_ct hv htn c hs ht hds hdt
 have h35:=fun htn hds hdt=>Why_ct hv htn c hs ht hds hdt
 have h40:=fun (M:Res) (hM:∀ p u,Rd S p u→Rd M p u) htn hds hdt (rule:Int) (rv:Value) (rn:List Nm) (hrw:nmsR M rv rn) hrl=>ChkWhy_ct (hv.mono hM) htn c (hs.mono hM) (ht.mono hM) hds hdt (rule:=rule) hrw hrl
 have hwf:=whyK_few (l:=l) (c:=c) (s:=s) (t:=t)
 obtain ⟨va,vc,rfl,hlc,hcm,_⟩:=id hv
 obtain ⟨ra,rc,rfl,hrc,hrm,_⟩:=id hrw
 obtain ⟨x0,rfl,hx0⟩:=hs.out
 obtain ⟨xa,xc,rfl,_⟩:=id hx0.form
 obtain ⟨y0,rfl,hy0⟩:=ht.out
 obtain ⟨ya,yc,rfl,_⟩:=id hy0.form
 unfold tyC at h27 h35 h40 ⊢
 refine ct_of (n:=87) Tryz.func9 Z Z (len Z) fun hr w0=>?_
 refine cQ (st_bx Z Z fun b7=>?_)
 refine st_bx Z Z fun b8=>?_
 refine st_bx Z Z fun b9=>?_
 refine sA Z (sK [0,1,7,8,9,10] Z (cQ (st_clr Z Z en10 Z (head_ct) ?_)))
 refine sA Z (sK [0,1,7,8,9,10,11] Z (cS (cQ (sM Z (sM Z (sV (v_ldn Z ld25 Z rds_pt) ?_))))))
 refine sV (v_ldn Z ld25 Z rds_pt) ?_
 refine st_buildSlice (cells:=tyC s (.slice xa s.args.length xc)++tyC t (.slice ya t.args.length yc)) Z Tryz.underlying23 inf25 Z Z (by kernel_rfl) (ltn Z) fun b19=>?_
 refine st_pv (pv_of (b:=b19) (n:=2) (sz:=5) (E:=25) [tyC s (.slice xa s.args.length xc),tyC t (.slice ya t.args.length yc)] Z (by simp [tyC]) Z (by decide)) ?_
 simp only [lC,lN]
 refine st_ok (r:=VR (.slice (some ⟨b19,0,none⟩) 2 2) 25 5 [tyC s (.slice xa s.args.length xc),tyC t (.slice ya t.args.length yc)]) slq fun hok=>?_
 refine st_cl Z Z en26 Z ((hlr b19 hok)) ?_
 rintro u h' ⟨ok,rfl,rfl,hok⟩
 simp only [lC,lN]
 refine sV (v_not Z) (sM Z ?_)
 cases ok with
 | false =>
  iterate 4 refine st_sk rfl rfl rfl ?_
  refine sV (vQ Z Z) (sK [0,1,7,8,9,10,11,27] Z (cd_true Z ?_))
  refine cQ (sM Z (sA Z (sK [10] Z (cT (xR (xt_law Z ?_))))))
  refine Sub.sel slq ?_
  repeat apply Sub.cons
  exact Sub.refl _
 | true =>
  obtain g:=hok rfl
  refine sG Z Z (vF Z fa61_1 Z) (sG Z Z (vY Z ld50) ?_)
  refine sG Z Z (v_len Z Tryz.underlying50) (sG Z Z (v_gtr Z Z) (sV (vP Z Z) (sK [0,1,7,8,9,10,11,27] Z (cC Z (fun hq=>?_) (fun hq=>?_)))))
  ·refine cQ (sM Z (sA Z (sK [10] Z (cT (xR (xt_law Z ?_))))))
   refine Sub.sel slq ?_
   repeat apply Sub.cons
   exact Sub.refl _
  ·have hq:decide (60<(rn.length:Int))=false:=hq
   simp only [decide_eq_false_iff_not] at hq
   refine cK (xT (cQ (sM Z (sM Z ?_))))
   have htn:=g.tiny
   have hl40:=g.len
   have hds:s.depth≤1000000:=by have:=(g.tys s (by simp)).2; omega
   have hdt:t.depth≤1000000:=by have:=(g.tys t (by simp)).2; omega
   obtain ⟨e1,e2,e3,e4,e5⟩:=reasons g
   clear hlr hok
   have h27:=h27 htn hds hdt
   have h35:=h35 htn hds hdt
   have h40:=fun M hM=>h40 M hM htn hds hdt
   have e3:=e3 rule rn
   rw [e4] at h27
   clear e4
   generalize WhyK l c s t=W at h27 h35 hwf e1 e2 e3 e5
   generalize chkW l c s t=chk at h40 e2 e3
   obtain ⟨⟨wr,wn⟩,we⟩:=W
   dsimp only at h27 h35 hwf e1 e2 e3 e5
   subst e1
   refine sV (v_ldn Z ld25 Z rds_pt) ?_
   refine sV (v_ldn Z ld25 Z rds_pt) ?_
   refine st_cl Z Z en35 Z (h35) ?_
   rintro u h' ⟨T1,rfl,w1,rfl,_,hw1⟩
   obtain ⟨w1a,w1c,rfl,_⟩:=id hw1
   simp only [lC,lN]
   refine sM Z (sV (v_extract Z Z) (sV (v_extract Z Z) (st_alc al61 fun b12=>?_)))
   refine st_stoW Z Z sz61 Z Z ?_
   refine sA Z (sK [0,1,7,8,9,10,11,12,13] Z (cS (cQ (sM Z (sV (v_neq Z Z) (sM Z ?_))))))
   have c3:=h40 S (fun _ _ h=>h) rule _ rn hrw (by omega)
   have c5:=reads_star (v:=.int .i64 (chk wr wn)) (h40 (Res.star [T1,S]) (rd_in (.there .here)) wr _ wn hw1 (by omega))
   rw [e2] at c5
   rw [show ((0:Int) != 0)=false from rfl]
   refine sG Z Z (vM Z) (sG Z Z (vM Z) (sG Z Z (v_ldn Z ld25 Z rds_pt) ?_))
   refine sG Z Z (v_ldn Z ld25 Z rds_pt) ?_
   refine sG Z Z (v_ldn Z ld61 Z rds_pt) ?_
   refine st_clrg Z Z Z Z en40 Z (c5) ?_
   refine sG Z Z (v_neq Z Z) (sV (vP Z Z) (sM Z ?_))
   rw [show ((0:Int) != 0)=false from rfl]
   refine sG Z Z (vM Z) (sG Z Z (vM Z) (sG Z Z (v_ldn Z ld25 Z rds_pt) ?_))
   refine sG Z Z (v_ldn Z ld25 Z rds_pt) ?_
   refine sG Z Z (v_ldn Z ld61 Z rds_pt) ?_
   refine st_clrg Z Z Z Z en40 Z (c3) ?_
   refine sG Z Z (v_eql Z Z) (sG Z Z (vM Z) ?_)
   generalize (chk rule rn == 0)=R0 at e3 ⊢
   cases R0 with
   | false =>
    iterate 5 refine st_sk rfl rfl rfl ?_
    refine sG Z Z (vP Z Z) (sV (vP Z Z) (sK [0,1,7,8,10,11,12,63] Z (cd_false Z ?_)))
    refine cK (xT (cS (cd_drawh (ork [(0,2),(1,2),(2,2),(3,2),(4,1),(5,1),(6,1),(7,2),(8,1),(9,2),(10,1),(11,2),(12,2),(13,2),(14,1),(15,2),(16,2),(17,2),(18,1),(19,2),(20,2),(21,2),(22,2),(23,2)] .nil) (fun _=>true) mixed (by kernel_rfl) ?_)))
    refine dV Z (vM Z) (dV Z (vM Z) (dp_vg Z Z Z (vM Z) (dp_vg Z Z Z (vM Z) (dr_vg Z Z Z (v_ldn Z ld25 Z rds_pt) ?_))))
    refine dr_vg Z Z Z (v_ldn Z ld25 Z rds_pt) ?_
    refine dr_clrg Z Z Z Z Z en27 Z (h27) ?_
    refine dp_vg Z Z Z (vF Z fa61_0 Z) (dr_vg Z Z Z (vY Z ld3) ?_)
    refine dp_vg Z Z Z (v_lss Z Z) (dr_vg Z Z Z (v_eql_bool Tryz.underlying4 Z Z) ?_)
    rw [show (decide (wr<11) == decide (wr<11))=true from beq_self_eq_true _]
    refine dV Z (vQ Z Z) (dV Z (vM Z) (dp_vg Z Z Z (vF Z fa61_0 Z) (dr_vg Z Z Z (vY Z ld3) ?_)))
    refine dp_vg Z Z Z (v_neq Z Z) (dp_vg Z Z Z (vM Z) ?_)
    generalize (wr != 5)=R5 at e5 ⊢
    cases R5 with
    | true =>
     refine dp_sk Z Z Z Z ?_
     refine dr_sk Z Z Z Z ?_
     iterate 2 refine dp_sk rfl rfl rfl rfl ?_
     refine dp_vg Z Z Z (vQ Z Z) (dV Z (vQ Z Z) (dV Z (vA Z) (dr_nil (nK [10] Z (nT (cT (xt_law Z ?_)))))))
     refine Sub.sel slq ?_
     repeat apply Sub.cons
     exact Sub.refl _
    | false =>
     refine dp_vg Z Z Z (vF Z fa61_1 Z) (dr_vg Z Z Z (vY Z ld50) ?_)
     refine dp_vg Z Z Z (v_len Z Tryz.underlying50) (dp_vg Z Z Z (v_gtr Z Z) (dp_vg Z Z Z (vP Z Z) (dV Z (vQ Z Z) (dV Z (vA Z) (dr_nil (nK [10] Z (nT (cT ?_))))))))
     rw [show decide (0<(wn.length:Int))=true from decide_eq_true (by have:=e5 rfl; omega)]
     refine xt_law Z ?_
     refine Sub.sel slq ?_
     repeat apply Sub.cons
     exact Sub.refl _
   | true =>
    obtain rfl:=e3 rfl
    refine sG Z Z (vF Z fa61_0 Z) (sG Z Z (vY Z ld3) ?_)
    refine sG Z Z (vF Z fa61_0 Z) (sG Z Z (vY Z ld3) ?_)
    refine sG Z Z (v_neq Z Z) (sG Z Z (vQ Z Z) (sV (vP Z Z) (sK [0,1,7,8,10,11,12,63] Z ?_)))
    rw [show (rule != rule)=false from bne_self_eq_false _]
    refine cd_false Z ?_
    refine cK (xT (cS (cd_drawh (ork [(0,2),(1,2),(2,2),(3,2),(4,1),(5,1),(6,1),(7,2),(8,1),(9,2),(10,1),(11,2),(12,2),(13,2),(14,1),(15,2),(16,2),(17,2),(18,1),(19,2),(20,2),(21,2),(22,2),(23,2)] .nil) (fun _=>true) mixed (by kernel_rfl) ?_)))
    refine dV Z (vM Z) (dV Z (vM Z) (dp_vg Z Z Z (vM Z) (dp_vg Z Z Z (vM Z) (dr_vg Z Z Z (v_ldn Z ld25 Z rds_pt) ?_))))
    refine dr_vg Z Z Z (v_ldn Z ld25 Z rds_pt) ?_
    refine dr_clrg Z Z Z Z Z en27 Z (h27) ?_
    refine dp_vg Z Z Z (vF Z fa61_0 Z) (dr_vg Z Z Z (vY Z ld3) ?_)
    refine dp_vg Z Z Z (v_lss Z Z) (dr_vg Z Z Z (v_eql_bool Tryz.underlying4 Z Z) ?_)
    rw [show (decide (rule<11) == decide (rule<11))=true from beq_self_eq_true _]
    refine dV Z (vQ Z Z) (dV Z (vM Z) (dp_vg Z Z Z (vF Z fa61_0 Z) (dr_vg Z Z Z (vY Z ld3) ?_)))
    refine dp_vg Z Z Z (v_neq Z Z) (dp_vg Z Z Z (vM Z) ?_)
    generalize (rule != 5)=R5 at e5 ⊢
    cases R5 with
    | true =>
     refine dp_sk Z Z Z Z ?_
     refine dr_sk Z Z Z Z ?_
     iterate 2 refine dp_sk rfl rfl rfl rfl ?_
     refine dp_vg Z Z Z (vQ Z Z) (dV Z (vQ Z Z) (dV Z (vA Z) (dr_nil (nK [10] Z (nT (cT (xt_law Z ?_)))))))
     refine Sub.sel slq ?_
     repeat apply Sub.cons
     exact Sub.refl _
    | false =>
     refine dp_vg Z Z Z (vF Z fa61_1 Z) (dr_vg Z Z Z (vY Z ld50) ?_)
     refine dp_vg Z Z Z (v_len Z Tryz.underlying50) (dp_vg Z Z Z (v_gtr Z Z) (dp_vg Z Z Z (vP Z Z) (dV Z (vQ Z Z) (dV Z (vA Z) (dr_nil (nK [10] Z (nT (cT ?_))))))))
     rw [show decide (0<(wn.length:Int))=true from decide_eq_true (by have:=e5 rfl; omega)]
     refine xt_law Z ?_
     refine Sub.sel slq ?_
     repeat apply Sub.cons
     exact Sub.refl _
end
end Go.Hr
