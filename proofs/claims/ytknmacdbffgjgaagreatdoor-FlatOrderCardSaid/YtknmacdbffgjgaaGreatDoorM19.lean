/-
  The law FlatConflicts,walked. Conditions: what is read; the library's table of blanks.
-/
import Derived.Test.YtknmacdbffgjgaaGreatDoorM8
import Derived.Test.YtknmacdbffgjgaaGreatDoorM6
import Derived.Test.YtknmacdbffgjgaaGreatDoorM18
import Derived.Test.YtknmacdbffgjgaaGreatDoorM12
set_option linter.unusedVariables false
set_option linter.unusedSimpArgs false
set_option maxRecDepth 100000
set_option maxHeartbeats 16000000
namespace Go.Fl
open Go Go.RowKit Go.Ck Go.Proofs Go.Proofs.Tryz Go.Proofs.YtknmacdbffgjgaaGreatDoor Fx Go.Hr
section
variable {P:Program} {w:World} {xs ys:Array Value} {d:Nat}
theorem lD {f : Field} {fs : List Field} {a b : Value} {r r2 : Bool} (h1 : f.name ≠ "_") (ha : (part f.type xs f.offset).run P w = .ok a w) (hb : (part f.type ys f.offset).run P w = .ok b w)
  (he:(Op.equalIn d f.type a b).run P w = .ok r w) (ht:(Op.eqFields d xs ys fs).run P w = .ok r2 w):(Op.eqFields d xs ys (f::fs)).run P w = .ok (r && r2) w:=by
 unfold Op.eqFields
 rw [if_pos h1]
 simp only [Sem.run_bind,ha,hb,he,Result.andThen_ok]
 cases r
 ·rw [if_pos (by rfl)]; rfl
 ·rw [if_neg (by simp),ht]; rfl
theorem fO {T:TypeId} {i:Nat} {v:Value} (hi:(isAgg T).run P w = .ok false w) (hx:xs[i]? = some v):(part T xs i).run P w = .ok v w:=by
 unfold part
 simp only [Sem.run_bind,hi,Result.andThen_ok,Bool.false_eq_true,if_false,hx,Sem.run_pure]
theorem lg {T:TypeId} {i n:Nat} (hi:(isAgg T).run P w = .ok true w) (hs:(sizeOf T).run P w = .ok n w):(part T xs i).run P w = .ok (.agg (xs.extract i (i+n))) w:=by
 unfold part
 simp only [Sem.run_bind,hi,hs,Result.andThen_ok,if_true,Sem.run_pure]
end
theorem Dx (w:World) (d:Nat) (a b c e:Nm):(Op.equalIn (d+2) 24 (.agg #[sv a,sv b]) (.agg #[sv c,sv e])).run prog w = .ok ([a,b] == [c,e]) w:=by
 have hf:prog.underlying 24=some (.struct<|prog.fieldsOf 24):=by simp [Program.fieldsOf,underlying24]
 rw [run_equalIn_struct w (d+1) 24 _ _ hf Zz]
 exact tY (xs:=[a,b]) (ys:=[c,e]) (prog.fieldsOf 24).toList 0 Zz Zz Zz
theorem cf_beq {x y:Cf}:decide (x=y)=(x.kind == y.kind && (x.cls == y.cls && (x.name == y.name && (x.other == y.other && ([x.a.par,x.a.name] == [y.a.par,y.a.name] && ([x.b.par,x.b.name] == [y.b.par,y.b.name] && true)))))):=by
 obtain ⟨k,c,n,o,⟨a1,a2⟩,⟨b1,b2⟩⟩:=x
 obtain ⟨k',c',n',o',⟨a1',a2'⟩,⟨b1',b2'⟩⟩:=y
 rw [Bool.eq_iff_iff]
 simp
theorem Dy {P:Program} {T:TypeId} {k:IntKind} {w:World} (hu:P.underlying T=some (.int k)):(isAgg T).run P w = .ok false w:=by
 unfold isAgg
 simp only [Sem.run_bind,run_underlying hu,Result.andThen_ok]
 rfl
theorem lF {P:Program} {T:TypeId} {w:World} (hu:P.underlying T=some .string):(isAgg T).run P w = .ok false w:=by
 unfold isAgg
 simp only [Sem.run_bind,run_underlying hu,Result.andThen_ok]
 rfl
theorem eqC (w:World) (x y:Cf):(Op.equalIn 10000 26 (cfV x) (cfV y)).run prog w = .ok (decide (x=y)) w:=by
 have hf:prog.underlying 26=some (.struct<|prog.fieldsOf 26):=by simp [Program.fieldsOf,underlying26]
 have hs:(sizeOf 24).run prog w = .ok 2 w:=Zz
 have ha:(isAgg 24).run prog w = .ok true w:=Zz
 unfold cfV
 rw [run_equalIn_struct w 9999 26 _ _ hf Zz,cf_beq]
 rw [show prog.fieldsOf 26=_ from by rw [Program.fieldsOf,underlying26]]
 refine lD (by decide) (fO (Dy underlying3) Z) (fO (Dy underlying3) Z) (run_equalIn_int w 9998 3 .i64 .i64 _ _ underlying3) ?_
 have hstr:∀ a b:Nm,(Op.equalIn 9999 9 (sv a)<|sv b).run prog w = .ok (a == b) w:=λa b=>by
  rw [show (Op.equalIn 9999 9 (sv a)<|sv b).run prog w=_ from run_equalIn_string w 9998 9 _ _ underlying9,jh,jh]
 refine lD (by decide) (fO (lF underlying9) Z) (fO (lF underlying9) Z) (hstr _ _) ?_
 refine lD (by decide) (fO (lF underlying9) Z) (fO (lF underlying9) Z) (hstr _ _) ?_
 refine lD (by decide) (fO (lF underlying9) Z) (fO (lF underlying9) Z) (hstr _ _) ?_
 refine lD (by decide) (lg ha hs) (lg ha hs) (Dx w 9997 _ _ _ _) ?_
 refine lD (by decide) (lg ha hs) (lg ha hs) (Dx w 9997 _ _ _ _) ?_
 simp [Op.eqFields]
theorem gd26:prog.eqGuardType prog.depth 26=false:=Zz
section
variable {e:Env} {h:SH} {ty:TypeId}
theorem v_eqC {t':TypeId} {x y:Operand} {a b:Cf} (hx:e.ev? x=some (cfV a)) (hy:e.ev? y=some (cfV b)):Vop prog e h (.binOp .eql 26 x y t') ty (.bool (decide (a=b))):=
 ⟨by simp,by simp,λρ w dd pos after g hρ _=>by
  have hq:=eqC w a b
  unfold cfV at *
  simp only [execOp,hρ x _ hx,hρ y _ hy,Sem.run_bind,run_eqGuard_agg w .eql 26 x y _ _ gd26,Result.andThen_ok,run_eql_struct,hq,Sem.run_pure]⟩
end
theorem seek_in {l:FS} {x:Cf} {n:Nm} {t:List Nm} {fs:List (Nm×Fl)} (h:n=x.cls):tq l x (n::t) fs=if (rz l fs n true).conflicts.contains x then 0 else 11:=by
 rw [tq,if_pos h]
theorem OX {l:FS} {x:Cf} {n:Nm} {t:List Nm} {fs:List (Nm×Fl)} (h:n≠x.cls):tq l x (n::t) fs=if (rz l fs n false).conflicts≠[] then 11 else if over (lS l fs n) then 11 else tq l x t (fs++[(n,flatOf l (ae l n) (lS l fs n))]):=by
 rw [tq,if_neg h]
attribute [local irreducible] Go.Ck.Sub St Cd Xt Nx DrL LsW
section
variable {X:Res} {v:Value} {l:FS}
theorem Bp (hX:Spc X) (hl:Ls X v l) (hS:iL l) (x:Cf):dQ prog 14 #[v,cfV x] X [] λu Y k'=>k'=[]/\u = .int .i64 (lU l x):=by
 have hml:maxLen=9223372036854775807:=rfl
 have hrb:reachBytes=140737488351232:=rfl
 obtain ⟨vAq,vK,rfl,_⟩:=id hl.form
 have hck:=sD hX hl
 have hab0:=FZ (wP hl) x.cls
 unfold dQ cfV cfC
 refine EG (n:=74) func14 Z Z (len Z) λhr w0 hw0=>?_
 refine cQ (aV Z Z λb3=>?_)
 refine ax al29 λb4=>?_
 refine sK [0,3,4] Z<|cS<|cQ<|sM Z<|bL hw0 Z Z en16 Z (hck) ?_
 rintro u h' ⟨rfl,rfl⟩
 simp only [lC,lN]
 refine sM Z<|sV (ag Z Z)<|sV (ag Z Z)<|sA Z<|sA Z<|sK [0,3,4,5] Z<|cQ<|sM Z<|sV (bM Z Z)<|sK [0,3,4,5,21] Z<|cC Z (λhz=>?_)<|λhz=>?_
 ·have hz:(bP l).1≠0:=Zn
  have hp:lU l x=(bP l).1:=by unfold lU; rw [if_pos hz]
  rw [hp]
  refine cQ<|sM Z<|bf Z Z D5 ?_
  refine sK [4] Z<|cT<|xR<|oH (bs:=[]) (k:=pt b4 (cl [.int .i64 (bP l).1] 29)::([X]++hr)) Z (.cell1 Z Bg ⟨_,_,.here,bU Z⟩ .nil) ⟨X,[],Z,Ext.refl X,Z,Z⟩ (Sub.cons<|Sub.refl _) ?_
  show Ck.Sub (pt b4 (cl [.int .i64 (bP l).1] 29)::X::hr) _
  exact sbq
 ·have hz:(bP l).1=0:=Zn
  have hR:=fM.1 hz
  have hp:lU l x=if (bE l x.cls).isNone then 11 else tq l x (above (aO l) x.cls) []:=by unfold lU; rw [if_neg (λh=>h hz)]
  rw [hp]
  refine cK<|xT<|cQ<|sM Z<|sV (vF Z Np Z)<|sV (vY Z ld9) ?_
  refine aH Z Z en41 Z (hab0) ?_
  rintro u h' ⟨T,rfl,w,rfl,hw,rfl⟩
  simp only [lC,lN]
  unfold NR
  refine sM Z<|sV (ag Z Z)<|sV (ag Z Z)<|sA Z<|sA Z<|sK [0,3,4,7,8] Z<|cS<|cQ<|sM Z<|sV (bM Z Z)<|sK [0,3,4,7,31] Z<|cC Z (λhr0=>?_)<|λhr0=>?_
  ·have hr0:dP (aO l) [x.cls]≠0:=by simpa using hr0
   have hno : (bE l x.cls).isNone = true := by
    cases hq:bE l x.cls with
    | none=>rfl
    | some c=>exact absurd (eX.2 ⟨hR.sys,λk hk=>by
      rw [List.mem_singleton] at hk
      subst hk
      rw [bS,hq]; rfl⟩) hr0
   rw [if_pos hno]
   refine cQ<|bf Z Z D5 ?_
   refine sK [4] Z<|cT<|xR<|oH (bs:=[]) (k:=pt b4 (cl [.int .i64 11] 29)::([X]++hr)) Z (.cell1 Z Bg ⟨_,_,.here,bU Z⟩ .nil) ⟨X,[],Z,Ext.refl X,Z,Z⟩ (Sub.cons<|Sub.refl _) ?_
   show Ck.Sub (pt b4 (cl [.int .i64 11] 29)::X::hr) _
   exact sbq
  ·have hr0:dP (aO l) [x.cls]=0:=by simpa using hr0
   have hx0:(bE l x.cls).isSome=true:=by rw [<- bS]; exact (eX.1 hr0).2 _ (by simp)
   rw [if_neg (by cases hq:bE l x.cls with | none=>rw [hq] at hx0; cases hx0 | some c=>simp)]
   rw [hr0,show okL 0 (above (aO l) x.cls)=above (aO l) x.cls from rfl]
   have hxn:(above (aO l) x.cls).Nodup:=(jJ hR.sys.acyc x.cls).1.nodup
   have hof:∀ n∈above (aO l) x.cls,(bE l n).isSome=true:=λn hn=>by
    rw [<- bS]; exact uL (by rw [bS]; exact hx0) (((jJ hR.sys.acyc x.cls).2 n).1 hn)
   have hol:=oF hR hx0
   generalize above (aO l) x.cls=xs at hxn hof hol ⊢
   refine fq (v:=w) (E:=9) (sz:=1) (rows:=xs.map nC) slq λwa wc hwf hwl hwm=>?_
   rw [List.length_map] at hwf hwl
   subst hwf
   refine cK<|xT<|cQ<|sM Z (eU (ltn Z) λmb=>?_)
   refine sV (aQ (cells:=[.slice vAq l.length vK,.map (some mb)]) Z<|λ_=>Zz) ?_
   refine ax al114 λb9=>?_
   refine ai Z Z sz114 Z Z ?_
   refine sK [3,4,7,9] Z<|cS<|cQ<|sM Z<|sV (aF Z underlying40)<|sM Z<|sK [3,4,9,35,36,37] Z<|cB<|nN<|nM (σ := Res×List (Nm×Value)×Nat×List (Nm×Fl)×List Nat) (λq=>q.2.2.2.2.map mk) (λq=>[(3,.pointer (some ⟨b3,0,none⟩)),(4,.pointer (some ⟨b4,0,none⟩)),(9,.pointer (some ⟨b9,0,none⟩)),(35,.slice wa xs.length wc),(36,.int .i64 xs.length),(37,.int .i64 (q.2.2.1:Nat))]) (λq=>Res.star (marks q.2.2.2.2)::pt b9 (cl [.slice vAq l.length vK,.map (some mb)] 114)::pt b3 (cl [.int .i64 x.kind,sv x.cls,sv x.name,sv x.other,sv x.a.par,sv x.a.name,sv x.b.par,sv x.b.name] 26)::pt b4 (cl [.int .i64 0] 29)::VR (.slice wa xs.length wc) 9 1 (xs.map nC)::q.1::mps mb q.2.1::hr) (λq=>Ext X q.1/\q.2.2.1≤xs.length/\FlR q.1 q.2.1 (look q.2.2.2.1)/\Fits l (look q.2.2.2.1)/\q.2.2.2.1.map (λp=>p.1)=xs.take q.2.2.1/\tq l x xs []=tq l x (xs.drop q.2.2.1) q.2.2.2.1) (λq=>xs.length - q.2.2.1) (X,[],0,[],[]) ⟨Ext.refl X,Nat.zero_le _,flr0,fits0 hR hS,Z,Z⟩ Z ⟨Z,Z,Z,Z,Z,Z,trivial⟩ sbq ?_
   rintro ⟨Y,m,i,fs,bs⟩ ⟨hE,hi,hm,hF,hfs,hbl⟩
   simp only at hE hi hm hF hfs hbl
   dsimp only
   refine cQ<|sV (aN Z Z)<|sN<|nT<|cS<|cC Z (λhd=>?_)<|λhd=>?_
   ·have hlt:i<xs.length:=Zx
    have hnx:(xs.map nC)[i]? = some [sv xs[i]]:=by rw [List.getElem?_map,Zy hlt]; rfl
    have hnm:=hof _<|List.getElem_mem hlt
    have htk:=bV hlt
    have hdr:=List.drop_eq_getElem_cons hlt
    rw [hdr] at hbl
    have hnew:xs[i] ∉ fs.map λp=>p.1:=by
     rw [hfs]
     intro hmem
     obtain ⟨j,hj,he⟩:=List.mem_take_iff_getElem.1 hmem
     have:=(List.getElem_inj hxn).1 he
     omega
    refine fw (r:=VR (.slice wa xs.length wc) 9 1<|xs.map nC) slq λhok=>?_
    obtain ⟨ab,ao,rfl⟩:∃ ab ao,wa=some ⟨ab,ao,none⟩:=by
     obtain ⟨f0,hf0⟩:=hok
     rcases VR.form hf0 with ⟨h3,h4⟩ | ⟨b,o,cp,h3,-⟩
     ·have:=List.map_eq_nil_iff.1 h4
      rw [this] at hlt; simp at hlt
     ·rw [List.length_map] at h3; cases h3; exact ⟨b,o,rfl⟩
    generalize xs[i]=n at hnx hnm htk hnew hbl
    obtain ⟨hcn,hcl⟩:(ae l n).name=n/\ae l n∈l:=by
     obtain ⟨c0,hc0⟩:=Option.isSome_iff_exists.1 hnm
     rw [gJ hc0]
     exact ⟨pM hc0,List.mem_of_find?_eq_some hc0⟩
    have hCR:=gL<|hR.form _ hcl
    have hfew:=hF.few<|.inl hcl
    obtain ⟨hsS,hsP,hsQ⟩:=hF.sums hcl
    obtain ⟨hmf,hmS⟩:=Ha hF.right hF.flb hcl
    have hmok:=za hF.flb.ok hCR hcl
    have hfl:=hCR.feats
    have hcc:=lY (n:=n) (fv:=.map<|some mb) (hl.up hE) rfl
    refine cK<|xT<|cS<|cB<|cQ<|sV (vI (k:=i) Z Z jv Z hlt Z)<|sV (vY Z ld9 (ha:=⟨_,_,slq,dN hnx 0<|by simp⟩)) ?_
    refine sA Z<|sK [3,4,9,11,35,36,37] Z<|cQ<|sV (af Z ig Z ah) ?_
    refine sM Z<|aH Z Z en56 Z (hcc) ?_
    rintro u h' ⟨rfl,cus,rfl,hcr⟩
    simp only [lC,lN]
    have hcr0:=hcr
    obtain ⟨ca,cb,ce,cf,ci,rfl,-⟩:=gB hcr
    have hco:=Enc.ones hcr0
    refine ax oq λb12=>?_
    refine ai Z Z kW Z hco ?_
    refine sK [3,4,9,11,12,35,36,37] Z<|cQ<|sV (af Z ig Z ah) ?_
    refine sV (af Z gp Z ah) ?_
    have hmem:=AP (mb:=mb) (hl.up hE) hcr0 hm (hF.hf<|.inl hcl) (by omega) hCR.names (by omega) (by omega) (by omega)<|by omega
    unfold CtX at hmem
    refine aH Z Z en57 Z (hmem) ?_
    rintro u h' ⟨Y2,k2,rfl,hE2,rfl,hms⟩
    simp only [lC,lN]
    have hE2':=hE.trans hE2
    have hB:∀ al,SkB ⟨look fs,l,ae l n,members (comes (look fs) l<|ae l n) (ae l n),al⟩:=λal=>⟨hF,hcl,hmS,hmf⟩
    refine sA Z<|sK [3,4,9,11,12,13,35,36,37] Z<|cS<|cQ<|sM Z<|sV (vF Z Np Z)<|sV (vY Z ld9) ?_
    refine sV (gQ Z Z)<|sK [3,4,9,11,12,13,35,36,37,50] Z<|cC Z (λhnq=>?_)<|λhnq=>?_
    ·have hnq:n=x.cls:=by simpa using hnq
     rw [seek_in hnq] at hbl
     have hc58:=xq (mb:=mb) (all:=true) (hl.up hE2') (Enc.up hE2.rd hcr0) (hm.up hE2) hms hF hcl
     unfold CtX at hc58
     refine cS<|cQ<|sV (af Z ig Z ah) ?_
     refine sV (af Z gp Z ah) ?_
     refine sM Z<|aH Z Z en58 Z (hc58) ?_
     rintro u2 h' ⟨Y3,k3,rfl,hE3,b90,bm,bmp,da,dbb,de,df,di,rfl,rfl,hK,hk0⟩
     simp only [lC,lN]
     have hE3':=hE2'.trans hE3
     refine sK [3,4,9,11,12,13,35,36,37,54] Z<|cB ?_
     have h127:=λ(yl:Nat) (Φ : List Cf->Res->Prop) (Stop:Cf->Res->Prop) (hy:Yh yl Φ Stop) (r0:Res) (h0 : Φ (rz l fs n true).conflicts r0)=>uD (mb:=mb) (bm:=bm) (b9:=b90) hy (S:=rz l fs n true) (all:=true) rfl hK (hB true) hk0 n rfl r0 h0
     generalize (rz l fs n true).conflicts=C at hbl h127
     refine xn hw0 Z en127w λyl db rec hst hpe hps hasg hbo hkn2=>?_
     refine ⟨λuz h''=>∃ h0,(uz = .tuple #[]/\∃ Y4,Ext Y3 Y4/\((C.contains x=false/\h0=[pt yl (.loop rec),pt db (.deferred<|some []),pt b3 (cl [.int .i64 x.kind,sv x.cls,sv x.name,sv x.other,sv x.a.par,sv x.a.name,sv x.b.par,sv x.b.name] 26),pt b4 (cl [.int .i64 0] 29),pt b9 (cl [.slice vAq l.length vK,.map (some mb)] 114),pt b12 (cl [sv (ae l n).name,.bool (ae l n).dfd,ca,cb,ce,cf,ci] 44),VR (.slice (some ⟨ab,ao,none⟩) xs.length wc) 9 1 (xs.map nC),Res.star (marks bs)]++[Y4,pt b90 (cl (fu (.slice vAq l.length vK) (.map<|some mb) (ae l n) da dbb de df di u (.map<|some bm) true) 206),mps mb m,mps bm bmp])∨(C.contains x=true/\∃ rec2:Loop,rec2.state≠.busy/\rec2.pending=some .ret/\h0=[pt yl (.loop rec2),pt db (.deferred<|some []),pt b3 (cl [.int .i64 x.kind,sv x.cls,sv x.name,sv x.other,sv x.a.par,sv x.a.name,sv x.b.par,sv x.b.name] 26),pt b4 (cl [.int .i64 0] 29),pt b9 (cl [.slice vAq l.length vK,.map (some mb)] 114),pt b12 (cl [sv (ae l n).name,.bool (ae l n).dfd,ca,cb,ce,cf,ci] 44),VR (.slice (some ⟨ab,ao,none⟩) xs.length wc) 9 1 (xs.map nC),Res.star (marks bs)]++[Y4,pt b90 (cl (fu (.slice vAq l.length vK) (.map<|some mb) (ae l n) da dbb de df di u (.map<|some bm) true) 206),mps mb m,mps bm bmp])))/\h''=h0++hr,Ctw.perm (Ctw.frame (g:=hr)<|Ctw.star (L:=[pt yl (.loop rec),pt db (.deferred<|some []),pt b3 (cl [.int .i64 x.kind,sv x.cls,sv x.name,sv x.other,sv x.a.par,sv x.a.name,sv x.b.par,sv x.b.name] 26),pt b4 (cl [.int .i64 0] 29),pt b9 (cl [.slice vAq l.length vK,.map (some mb)] 114),pt b12 (cl [sv (ae l n).name,.bool (ae l n).dfd,ca,cb,ce,cf,ci] 44),VR (.slice (some ⟨ab,ao,none⟩) xs.length wc) 9 1 (xs.map nC),Res.star (marks bs)]) (A:=[Y3,pt b90 (cl (fu (.slice vAq l.length vK) (.map<|some mb) (ae l n) da dbb de df di u (.map<|some bm) true) 206),mps mb m,mps bm bmp])<|Ctw.vw (Ctw.perm (h127 yl (λL r=>(∃ pre,C=pre++L/\x ∉ pre)/\r=Res.star ([pt yl (.loop rec),pt db (.deferred<|some []),pt b3 (cl [.int .i64 x.kind,sv x.cls,sv x.name,sv x.other,sv x.a.par,sv x.a.name,sv x.b.par,sv x.b.name] 26),pt b4 (cl [.int .i64 0] 29),pt b9 (cl [.slice vAq l.length vK,.map (some mb)] 114),pt b12 (cl [sv (ae l n).name,.bool (ae l n).dfd,ca,cb,ce,cf,ci] 44),VR (.slice (some ⟨ab,ao,none⟩) xs.length wc) 9 1 (xs.map nC),Res.star (marks bs)])) (λy r=>y=x/\C.contains x=true/\∃ rec2:Loop,rec2.state≠.busy/\rec2.pending=some .ret/\r=Res.star ([pt yl (.loop rec2),pt db (.deferred<|some []),pt b3 (cl [.int .i64 x.kind,sv x.cls,sv x.name,sv x.other,sv x.a.par,sv x.a.name,sv x.b.par,sv x.b.name] 26),pt b4 (cl [.int .i64 0] 29),pt b9 (cl [.slice vAq l.length vK,.map (some mb)] 114),pt b12 (cl [sv (ae l n).name,.bool (ae l n).dfd,ca,cb,ce,cf,ci] 44),VR (.slice (some ⟨ab,ao,none⟩) xs.length wc) 9 1 (xs.map nC),Res.star (marks bs)])) ?_ _ ⟨⟨[],Z,by simp⟩,Z⟩) (by (try simp only [lC,lN]); exact (by repeat (first | exact Pm.refl | refine Pm.cons slq ?_):Pm _ _).perm)) ?_) (by (try simp only [lC,lN]); exact (by repeat (first | exact Pm.refl | refine Pm.cons slq ?_):Pm _ _).perm),?_⟩
     ·rintro y rest r ⟨⟨pre, hpre, hnpre⟩, rfl⟩
      refine Yc.star (R:=λu L'=>(u = .bool true/\y≠x/\L'=[pt yl (.loop rec),pt db (.deferred<|some []),pt b3 (cl [.int .i64 x.kind,sv x.cls,sv x.name,sv x.other,sv x.a.par,sv x.a.name,sv x.b.par,sv x.b.name] 26),pt b4 (cl [.int .i64 0] 29),pt b9 (cl [.slice vAq l.length vK,.map (some mb)] 114),pt b12 (cl [sv (ae l n).name,.bool (ae l n).dfd,ca,cb,ce,cf,ci] 44),VR (.slice (some ⟨ab,ao,none⟩) xs.length wc) 9 1 (xs.map nC),Res.star (marks bs)])∨(u = .bool false/\y=x/\∃ rec2:Loop,rec2.state≠.busy/\rec2.pending=some .ret/\L'=[pt yl (.loop rec2),pt db (.deferred<|some []),pt b3 (cl [.int .i64 x.kind,sv x.cls,sv x.name,sv x.other,sv x.a.par,sv x.a.name,sv x.b.par,sv x.b.name] 26),pt b4 (cl [.int .i64 0] 29),pt b9 (cl [.slice vAq l.length vK,.map (some mb)] 114),pt b12 (cl [sv (ae l n).name,.bool (ae l n).dfd,ca,cb,ce,cf,ci] 44),VR (.slice (some ⟨ab,ao,none⟩) xs.length wc) 9 1 (xs.map nC),Res.star (marks bs)])) (qJ (n:=74) (rec:=rec) (args:=[cfV y]) (hf:=[pt db (.deferred<|some []),pt b3 (cl [.int .i64 x.kind,sv x.cls,sv x.name,sv x.other,sv x.a.par,sv x.a.name,sv x.b.par,sv x.b.name] 26),pt b4 (cl [.int .i64 0] 29),pt b9 (cl [.slice vAq l.length vK,.map (some mb)] 114),pt b12 (cl [sv (ae l n).name,.bool (ae l n).dfd,ca,cb,ce,cf,ci] 44),VR (.slice (some ⟨ab,ao,none⟩) xs.length wc) 9 1 (xs.map nC),Res.star (marks bs)]) (by rw [hps]; rfl) hkn2 (by rw [hps]; decide) ?_)<|λu L' h=>?_
      ·intro hr2 w1
       rw [hasg,hps,hbo]
       simp only [lC,lN]
       unfold cfV cfC
       refine cR (ax zQ λb14=>?_)
       refine ai Z Z tK Z Z ?_
       refine sN<|nK [3,4,14] Z<|au<|lI Z slq (by first | rfl | assumption) ?_
       refine cB<|cQ<|sV (af Z qP Z ah) ?_
       refine sV (af Z qP Z ah) ?_
       refine sV (v_eqC (a:=y) (b:=x) Z Z)<|sK [4,58] Z<|cC Z (λhyx=>?_)<|λhyx=>?_
       ·have hyx:y=x:=of_decide_eq_true hyx
        refine cQ<|bf Z Z D5 ?_
        refine sK [4] Z<|cT<|xW<|kT slq (.inr ⟨Z,hyx,?rr,?_,?_,Z⟩) ?_
        rotate_left 3
        ·exact sbq
        ·simp
        ·rfl
       ·have hyx:y≠x:=of_decide_eq_false hyx
        refine cK<|xB<|dB slq (.inl ⟨Z,hyx,Z⟩) ?_
        rw [dC hst hpe]
        exact sbq
      ·rcases h with ⟨h1, h2, h3⟩ | ⟨h1, h2, rec2, h3, h4, h5⟩
       ·exact .inl ⟨h1,_,⟨⟨pre++[y],by rw [hpre,List.append_assoc]; rfl,λhm=>by
         rcases List.mem_append.1 hm with hm | hm
         ·exact hnpre hm
         ·exact h2 (List.mem_singleton.1 hm).symm⟩,Z⟩,by rw [h3]⟩
       ·exact .inr ⟨h1,_,⟨h2,by rw [hpre,List.contains_iff_mem]; subst h2; simp,rec2,h3,h4,rfl⟩,by rw [h5]⟩
     ·rintro u9 h' ⟨Y4,k',rfl,hE4,rfl,r,rfl,hor⟩
      rcases hor with ⟨⟨pre,hpre,hnpre⟩,hr9⟩ | ⟨y,hyx,hcx,rec2,hb2,hp2,hr9⟩
      ·subst hr9
       exact ⟨[pt yl (.loop rec),pt db (.deferred<|some []),pt b3 (cl [.int .i64 x.kind,sv x.cls,sv x.name,sv x.other,sv x.a.par,sv x.a.name,sv x.b.par,sv x.b.name] 26),pt b4 (cl [.int .i64 0] 29),pt b9 (cl [.slice vAq l.length vK,.map (some mb)] 114),pt b12 (cl [sv (ae l n).name,.bool (ae l n).dfd,ca,cb,ce,cf,ci] 44),VR (.slice (some ⟨ab,ao,none⟩) xs.length wc) 9 1 (xs.map nC),Res.star (marks bs)]++[Y4,pt b90 (cl (fu (.slice vAq l.length vK) (.map<|some mb) (ae l n) da dbb de df di u (.map<|some bm) true) 206),mps mb m,mps bm bmp],λt=>xu (L:=[pt yl (.loop rec),pt db (.deferred<|some []),pt b3 (cl [.int .i64 x.kind,sv x.cls,sv x.name,sv x.other,sv x.a.par,sv x.a.name,sv x.b.par,sv x.b.name] 26),pt b4 (cl [.int .i64 0] 29),pt b9 (cl [.slice vAq l.length vK,.map (some mb)] 114),pt b12 (cl [sv (ae l n).name,.bool (ae l n).dfd,ca,cb,ce,cf,ci] 44),VR (.slice (some ⟨ab,ao,none⟩) xs.length wc) 9 1 (xs.map nC),Res.star (marks bs)]) (A:=[Y4,pt b90 (cl (fu (.slice vAq l.length vK) (.map<|some mb) (ae l n) da dbb de df di u (.map<|some bm) true) 206),mps mb m,mps bm bmp]),Z,Y4,hE4,.inl ⟨by rw [hpre,List.append_nil]; simpa using hnpre,Z⟩⟩
      ·subst hr9
       exact ⟨[pt yl (.loop rec2),pt db (.deferred<|some []),pt b3 (cl [.int .i64 x.kind,sv x.cls,sv x.name,sv x.other,sv x.a.par,sv x.a.name,sv x.b.par,sv x.b.name] 26),pt b4 (cl [.int .i64 0] 29),pt b9 (cl [.slice vAq l.length vK,.map (some mb)] 114),pt b12 (cl [sv (ae l n).name,.bool (ae l n).dfd,ca,cb,ce,cf,ci] 44),VR (.slice (some ⟨ab,ao,none⟩) xs.length wc) 9 1 (xs.map nC),Res.star (marks bs)]++[Y4,pt b90 (cl (fu (.slice vAq l.length vK) (.map<|some mb) (ae l n) da dbb de df di u (.map<|some bm) true) 206),mps mb m,mps bm bmp],λt=>xu (L:=[pt yl (.loop rec2),pt db (.deferred<|some []),pt b3 (cl [.int .i64 x.kind,sv x.cls,sv x.name,sv x.other,sv x.a.par,sv x.a.name,sv x.b.par,sv x.b.name] 26),pt b4 (cl [.int .i64 0] 29),pt b9 (cl [.slice vAq l.length vK,.map (some mb)] 114),pt b12 (cl [sv (ae l n).name,.bool (ae l n).dfd,ca,cb,ce,cf,ci] 44),VR (.slice (some ⟨ab,ao,none⟩) xs.length wc) 9 1 (xs.map nC),Res.star (marks bs)]) (A:=[Y4,pt b90 (cl (fu (.slice vAq l.length vK) (.map<|some mb) (ae l n) da dbb de df di u (.map<|some bm) true) 206),mps mb m,mps bm bmp]),Z,Y4,hE4,.inr ⟨hcx,rec2,hb2,hp2,Z⟩⟩
     ·rintro u9 h'' ⟨h0,⟨rfl,Y4,hE4,(⟨hcx,rfl⟩ | ⟨hcx,rec2,hb2,hp2,rfl⟩)⟩,rfl⟩
      ·simp only [lC,lN]
       refine ⟨rec,_,slq,(by rw [hst]; simp),?_⟩
       rw [hpe]
       dsimp only
       rw [hcx,if_neg (by decide)] at hbl
       rw [hbl]
       refine xB<|xT<|cQ<|bf Z Z D5 ?_
       refine sK [4] Z<|cT<|xR<|xW<|xR<|xR<|xW<|xR<|jw slq slq ?_
       refine kE (bs:=db::bs) (k:=pt b4 (cl [.int .i64 11] 29)::([Y4]++hr)) Z (.cell1 Z Bg ⟨_,_,.here,bU Z⟩ .nil) ⟨Y4,[],Z,hE3'.trans hE4,Z,Z⟩ (Sub.cons<|Sub.refl _) ?_
       simp only [lC,lN]
       exact sbq
      ·simp only [lC,lN]
       refine ⟨rec2,_,slq,hb2,?_⟩
       rw [hp2]
       dsimp only
       rw [hcx,if_pos rfl] at hbl
       rw [hbl]
       refine cT<|xW<|xR<|xR<|xW<|xR<|xR<|xW<|xR<|jw slq slq ?_
       refine kE (bs:=db::bs) (k:=pt b4 (cl [.int .i64 0] 29)::([Y4]++hr)) Z (.cell1 Z Bg ⟨_,_,.here,bU Z⟩ .nil) ⟨Y4,[],Z,hE3'.trans hE4,Z,Z⟩ (Sub.cons<|Sub.refl _) ?_
       simp only [lC,lN]
       exact sbq
    ·have hnq:n≠x.cls:=by simpa using hnq
     rw [OX hnq] at hbl
     have hc58:=xq (mb:=mb) (all:=false) (hl.up hE2') (Enc.up hE2.rd hcr0) (hm.up hE2) hms hF hcl
     unfold CtX at hc58
     refine cK<|xT<|cS<|cQ<|sV (af Z ig Z ah) ?_
     refine sV (af Z gp Z ah) ?_
     refine sM Z<|aH Z Z en58 Z (hc58) ?_
     rintro u2 h' ⟨Y3,k3,rfl,hE3,b90,bm,bmp,da,dbb,de,df,di,rfl,rfl,hK,hk0⟩
     simp only [lC,lN]
     have hE3':=hE2'.trans hE3
     refine sK [3,4,9,11,12,13,35,36,37,62] Z<|cB ?_
     have h127:=λ(yl:Nat) (Φ : List Cf->Res->Prop) (Stop:Cf->Res->Prop) (hy:Yh yl Φ Stop) (r0:Res) (h0 : Φ (rz l fs n false).conflicts r0)=>uD (mb:=mb) (bm:=bm) (b9:=b90) hy (S:=rz l fs n false) (all:=false) rfl hK (hB false) hk0 n rfl r0 h0
     generalize (rz l fs n false).conflicts=C at hbl h127
     refine xn hw0 Z en127w λyl db rec hst hpe hps hasg hbo hkn2=>?_
     refine ⟨λuz h''=>∃ h0,(uz = .tuple #[]/\∃ Y4,Ext Y3 Y4/\((C=[]/\h0=[pt yl (.loop rec),pt db (.deferred<|some []),pt b3 (cl [.int .i64 x.kind,sv x.cls,sv x.name,sv x.other,sv x.a.par,sv x.a.name,sv x.b.par,sv x.b.name] 26),pt b4 (cl [.int .i64 0] 29),pt b9 (cl [.slice vAq l.length vK,.map (some mb)] 114),pt b12 (cl [sv (ae l n).name,.bool (ae l n).dfd,ca,cb,ce,cf,ci] 44),VR (.slice (some ⟨ab,ao,none⟩) xs.length wc) 9 1 (xs.map nC),Res.star (marks bs)]++[Y4,pt b90 (cl (fu (.slice vAq l.length vK) (.map<|some mb) (ae l n) da dbb de df di u (.map<|some bm) false) 206),mps mb m,mps bm bmp])∨(C≠[]/\∃ rec2:Loop,rec2.state≠.busy/\rec2.pending=some .ret/\h0=[pt yl (.loop rec2),pt db (.deferred<|some []),pt b3 (cl [.int .i64 x.kind,sv x.cls,sv x.name,sv x.other,sv x.a.par,sv x.a.name,sv x.b.par,sv x.b.name] 26),pt b4 (cl [.int .i64 11] 29),pt b9 (cl [.slice vAq l.length vK,.map (some mb)] 114),pt b12 (cl [sv (ae l n).name,.bool (ae l n).dfd,ca,cb,ce,cf,ci] 44),VR (.slice (some ⟨ab,ao,none⟩) xs.length wc) 9 1 (xs.map nC),Res.star (marks bs)]++[Y4,pt b90 (cl (fu (.slice vAq l.length vK) (.map<|some mb) (ae l n) da dbb de df di u (.map<|some bm) false) 206),mps mb m,mps bm bmp])))/\h''=h0++hr,Ctw.perm (Ctw.frame (g:=hr)<|Ctw.star (L:=[pt yl (.loop rec),pt db (.deferred<|some []),pt b3 (cl [.int .i64 x.kind,sv x.cls,sv x.name,sv x.other,sv x.a.par,sv x.a.name,sv x.b.par,sv x.b.name] 26),pt b4 (cl [.int .i64 0] 29),pt b9 (cl [.slice vAq l.length vK,.map (some mb)] 114),pt b12 (cl [sv (ae l n).name,.bool (ae l n).dfd,ca,cb,ce,cf,ci] 44),VR (.slice (some ⟨ab,ao,none⟩) xs.length wc) 9 1 (xs.map nC),Res.star (marks bs)]) (A:=[Y3,pt b90 (cl (fu (.slice vAq l.length vK) (.map<|some mb) (ae l n) da dbb de df di u (.map<|some bm) false) 206),mps mb m,mps bm bmp])<|Ctw.vw (Ctw.perm (h127 yl (λL r=>L=C/\r=Res.star ([pt yl (.loop rec),pt db (.deferred<|some []),pt b3 (cl [.int .i64 x.kind,sv x.cls,sv x.name,sv x.other,sv x.a.par,sv x.a.name,sv x.b.par,sv x.b.name] 26),pt b4 (cl [.int .i64 0] 29),pt b9 (cl [.slice vAq l.length vK,.map (some mb)] 114),pt b12 (cl [sv (ae l n).name,.bool (ae l n).dfd,ca,cb,ce,cf,ci] 44),VR (.slice (some ⟨ab,ao,none⟩) xs.length wc) 9 1 (xs.map nC),Res.star (marks bs)])) (λy r=>C≠[]/\∃ rec2:Loop,rec2.state≠.busy/\rec2.pending=some .ret/\r=Res.star ([pt yl (.loop rec2),pt db (.deferred<|some []),pt b3 (cl [.int .i64 x.kind,sv x.cls,sv x.name,sv x.other,sv x.a.par,sv x.a.name,sv x.b.par,sv x.b.name] 26),pt b4 (cl [.int .i64 11] 29),pt b9 (cl [.slice vAq l.length vK,.map (some mb)] 114),pt b12 (cl [sv (ae l n).name,.bool (ae l n).dfd,ca,cb,ce,cf,ci] 44),VR (.slice (some ⟨ab,ao,none⟩) xs.length wc) 9 1 (xs.map nC),Res.star (marks bs)])) ?_ _ ⟨Z,Z⟩) (by (try simp only [lC,lN]); exact (by repeat (first | exact Pm.refl | refine Pm.cons slq ?_):Pm _ _).perm)) ?_) (by (try simp only [lC,lN]); exact (by repeat (first | exact Pm.refl | refine Pm.cons slq ?_):Pm _ _).perm),?_⟩
     ·rintro y rest r ⟨hCx,rfl⟩
      refine Yc.star (R:=λu L'=>u = .bool false/\∃ rec2:Loop,rec2.state≠.busy/\rec2.pending=some .ret/\L'=[pt yl (.loop rec2),pt db (.deferred<|some []),pt b3 (cl [.int .i64 x.kind,sv x.cls,sv x.name,sv x.other,sv x.a.par,sv x.a.name,sv x.b.par,sv x.b.name] 26),pt b4 (cl [.int .i64 11] 29),pt b9 (cl [.slice vAq l.length vK,.map (some mb)] 114),pt b12 (cl [sv (ae l n).name,.bool (ae l n).dfd,ca,cb,ce,cf,ci] 44),VR (.slice (some ⟨ab,ao,none⟩) xs.length wc) 9 1 (xs.map nC),Res.star (marks bs)]) (qJ (n:=74) (rec:=rec) (args:=[cfV y]) (hf:=[pt db (.deferred<|some []),pt b3 (cl [.int .i64 x.kind,sv x.cls,sv x.name,sv x.other,sv x.a.par,sv x.a.name,sv x.b.par,sv x.b.name] 26),pt b4 (cl [.int .i64 0] 29),pt b9 (cl [.slice vAq l.length vK,.map (some mb)] 114),pt b12 (cl [sv (ae l n).name,.bool (ae l n).dfd,ca,cb,ce,cf,ci] 44),VR (.slice (some ⟨ab,ao,none⟩) xs.length wc) 9 1 (xs.map nC),Res.star (marks bs)]) (by rw [hps]; rfl) hkn2 (by rw [hps]; decide) ?_)<|λu L' ⟨h1,rec2,h3,h4,h2⟩=>.inr ⟨h1,_,⟨by rw [<- hCx]; simp,rec2,h3,h4,Z⟩,by rw [h2]⟩
      intro hr2 w1
      rw [hasg,hps,hbo]
      simp only [lC,lN]
      refine cK<|lI Z slq (by first | rfl | assumption) ?_
      refine cB<|cQ<|bf Z Z D5 ?_
      refine sK [4] Z<|cT<|xW<|kT slq ⟨Z,?rs,?_,?_,Z⟩ ?_
      rotate_left 3
      ·exact sbq
      ·simp
      ·rfl
     ·rintro u9 h' ⟨Y4,k',rfl,hE4,rfl,r,rfl,hor⟩
      rcases hor with ⟨hC0,hr9⟩ | ⟨y,hcx,rec2,hb2,hp2,hr9⟩
      ·subst hr9
       exact ⟨[pt yl (.loop rec),pt db (.deferred<|some []),pt b3 (cl [.int .i64 x.kind,sv x.cls,sv x.name,sv x.other,sv x.a.par,sv x.a.name,sv x.b.par,sv x.b.name] 26),pt b4 (cl [.int .i64 0] 29),pt b9 (cl [.slice vAq l.length vK,.map (some mb)] 114),pt b12 (cl [sv (ae l n).name,.bool (ae l n).dfd,ca,cb,ce,cf,ci] 44),VR (.slice (some ⟨ab,ao,none⟩) xs.length wc) 9 1 (xs.map nC),Res.star (marks bs)]++[Y4,pt b90 (cl (fu (.slice vAq l.length vK) (.map<|some mb) (ae l n) da dbb de df di u (.map<|some bm) false) 206),mps mb m,mps bm bmp],λt=>xu (L:=[pt yl (.loop rec),pt db (.deferred<|some []),pt b3 (cl [.int .i64 x.kind,sv x.cls,sv x.name,sv x.other,sv x.a.par,sv x.a.name,sv x.b.par,sv x.b.name] 26),pt b4 (cl [.int .i64 0] 29),pt b9 (cl [.slice vAq l.length vK,.map (some mb)] 114),pt b12 (cl [sv (ae l n).name,.bool (ae l n).dfd,ca,cb,ce,cf,ci] 44),VR (.slice (some ⟨ab,ao,none⟩) xs.length wc) 9 1 (xs.map nC),Res.star (marks bs)]) (A:=[Y4,pt b90 (cl (fu (.slice vAq l.length vK) (.map<|some mb) (ae l n) da dbb de df di u (.map<|some bm) false) 206),mps mb m,mps bm bmp]),Z,Y4,hE4,.inl ⟨hC0.symm,Z⟩⟩
      ·subst hr9
       exact ⟨[pt yl (.loop rec2),pt db (.deferred<|some []),pt b3 (cl [.int .i64 x.kind,sv x.cls,sv x.name,sv x.other,sv x.a.par,sv x.a.name,sv x.b.par,sv x.b.name] 26),pt b4 (cl [.int .i64 11] 29),pt b9 (cl [.slice vAq l.length vK,.map (some mb)] 114),pt b12 (cl [sv (ae l n).name,.bool (ae l n).dfd,ca,cb,ce,cf,ci] 44),VR (.slice (some ⟨ab,ao,none⟩) xs.length wc) 9 1 (xs.map nC),Res.star (marks bs)]++[Y4,pt b90 (cl (fu (.slice vAq l.length vK) (.map<|some mb) (ae l n) da dbb de df di u (.map<|some bm) false) 206),mps mb m,mps bm bmp],λt=>xu (L:=[pt yl (.loop rec2),pt db (.deferred<|some []),pt b3 (cl [.int .i64 x.kind,sv x.cls,sv x.name,sv x.other,sv x.a.par,sv x.a.name,sv x.b.par,sv x.b.name] 26),pt b4 (cl [.int .i64 11] 29),pt b9 (cl [.slice vAq l.length vK,.map (some mb)] 114),pt b12 (cl [sv (ae l n).name,.bool (ae l n).dfd,ca,cb,ce,cf,ci] 44),VR (.slice (some ⟨ab,ao,none⟩) xs.length wc) 9 1 (xs.map nC),Res.star (marks bs)]) (A:=[Y4,pt b90 (cl (fu (.slice vAq l.length vK) (.map<|some mb) (ae l n) da dbb de df di u (.map<|some bm) false) 206),mps mb m,mps bm bmp]),Z,Y4,hE4,.inr ⟨hcx,rec2,hb2,hp2,Z⟩⟩
     ·rintro u9 h'' ⟨h0, ⟨rfl, Y4, hE4, (⟨rfl, rfl⟩ | ⟨hcx, rec2, hb2, hp2, rfl⟩)⟩, rfl⟩
      ·simp only [lC,lN]
       refine ⟨rec,_,slq,(by rw [hst]; simp),?_⟩
       rw [hpe]
       dsimp only
       rw [if_neg (by simp)] at hbl
       refine xB<|xT<|cS<|cQ<|sM Z ?_
       have hE4':=hE3'.trans hE4
       have hE24:=hE2.trans<|hE3.trans hE4
       have hms4:=hms.up<|hE3.trans hE4
       have hov:=KG hms4
       refine aY Z Z en59 Z (hov) ?_
       refine sK [3,4,9,11,12,13,35,36,37,65] Z<|cC Z (λhto=>?_)<|λhto=>?_
       ·rw [if_pos (show over (lS l fs n)=true from hto)] at hbl
        rw [hbl]
        refine cQ<|bf Z Z D5 ?_
        refine sK [4] Z<|cT<|xR<|xW<|xR<|xR<|xW<|xR<|jw slq slq ?_
        refine kE (bs:=db::bs) (k:=pt b4 (cl [.int .i64 11] 29)::([Y4]++hr)) Z (.cell1 Z Bg ⟨_,_,.here,bU Z⟩ .nil) ⟨Y4,[],Z,hE4',Z,Z⟩ (Sub.cons<|Sub.refl _) ?_
        simp only [lC,lN]
        exact sbq
       ·have hto2:over (lS l fs n)=false:=hto
        have hto':¬ over (lS l fs n)=true:=by rw [hto2]; simp
        rw [if_neg hto'] at hbl
        have hsh:(lS l fs n).length≤60:=by
         refine Nat.le_of_not_lt λh=>hto' ?_
         show over (lS l fs n)=true
         unfold over
         rw [decide_eq_true h,Bool.true_or]
        have hrn:dP (aO l) [(ae l n).name]=0:=eX.2 ⟨hR.sys,by
         intro k hk
         rw [List.mem_singleton] at hk
         subst hk
         rw [hcn]
         rw [bS]; exact hnm⟩
        have hab:=oF hR (by rw [hcn]; exact hnm:(bE l (ae l n).name).isSome=true)
        have hfc:=KP (fv:=.map<|some mb) (hl.up hE4') (Enc.up (hE24).rd hcr0) hms4 rfl hrn<|by omega
        refine cK<|xT<|iR (ork [(0,2),(1,1),(2,2),(3,1),(4,1),(5,2),(6,0),(7,0)] .nil) (λi => !(Nat.beq i 7)) [pt b9 (cl [.slice vAq l.length vK,.map (some mb)] 114),pt b12 (cl [sv (ae l n).name,.bool (ae l n).dfd,ca,cb,ce,cf,ci] 44)] mixed Zz ?_
        refine dV Z (vF Z iG Z)<|bg Z (vY Z oh) ?_
        refine dV Z (vM Z)<|bg Z (af Z ig Z ah) ?_
        refine bg Z (af Z gp Z ah) ?_
        refine dV Z (vM Z)<|aP Z<|aH Z Z en60 Z (hfc) ?_
        rintro u9 h' ⟨Y5,k5,rfl,hE5,rfl,fus,rfl,hfr⟩
        simp only [lC,lN]
        refine aX ?_
        refine aP Z<|cZ Z Z Z nY slq<|aX ?_
        refine bA<|nK [3,4,9,35,36,37] Z<|au<|xB<|xT<|cR<|sV (aI Z Z Z6)<|sM Z<|sN<|nK [3,4,9,35,36,37] Z<|au<|jw slq slq ?_
        refine lm (Y5,eH m n (.agg fus.toArray),i+1,fs++[(n,flatOf l (ae l n) (lS l fs n))],db::bs) ⟨hE4'.trans hE5,hlt,(hm.up<|hE24.trans hE5).put hnew hfr,⟨hF.right,hF.flb.put hnew hsh hmok,hF.lists⟩,by rw [List.map_append,hfs,htk]; rfl,hbl⟩ (by show xs.length - (i+1)<xs.length - i; omega) Z ⟨Z,Z,Z,Z,Z,Z,trivial⟩ ?_
        dsimp only
        exact sbq
      ·simp only [lC,lN]
       refine ⟨rec2,_,slq,hb2,?_⟩
       rw [hp2]
       dsimp only
       rw [if_pos hcx] at hbl
       rw [hbl]
       refine cT<|xW<|xR<|xW<|xR<|xR<|xW<|xR<|jw slq slq ?_
       refine kE (bs:=db::bs) (k:=pt b4 (cl [.int .i64 11] 29)::([Y4]++hr)) Z (.cell1 Z Bg ⟨_,_,.here,bU Z⟩ .nil) ⟨Y4,[],Z,hE3'.trans hE4,Z,Z⟩ (Sub.cons<|Sub.refl _) ?_
       simp only [lC,lN]
       exact sbq
   ·have hie:i=xs.length:=Nat.le_antisymm hi<|Nat.not_lt.1 Zx
    subst hie
    rw [List.drop_length] at hbl
    rw [hbl]
    refine aB<|xE<|xE<|xY<|xT<|cQ<|bf Z Z D5 ?_
    refine sK [4] Z<|cT<|kE (bs:=bs) (k:=pt b4 (cl [.int .i64 11] 29)::([Y]++hr)) Z (.cell1 Z Bg ⟨_,_,.here,bU Z⟩ .nil) ⟨Y,[],Z,hE,Z,Z⟩ (Sub.cons<|Sub.refl _) ?_
    simp only [lC,lN]
    exact sbq
end
end Go.Fl
namespace Go.Fl
open Go Go.RowKit Go.Ck Go.Proofs Go.Proofs.Tryz Go.Proofs.YtknmacdbffgjgaaGreatDoor Fx Go.Hr
theorem lh {S:Res}:Tys S (.slice none 0 0) []:=⟨Row.nil,by simp⟩
def exF (k:Int) (n:Nm) (b:Nat) (tk:Int):List Value:=[.int .i64 k,sv n,.slice (some ⟨b,0,none⟩) 1 1,.slice none 0 0,.int .i64 tk,sv [],.slice none 0 0,.bool false,.bool false,.slice none 0 0,.slice none 0 0,.slice none 0 0,.slice none 0 0,.slice none 0 0,.bool false]
def qE (ba bb bc:Nat) (fp fb:Value):List Value:=[sv nP,.bool false,.slice none 0 0,.slice none 0 0,.slice none 0 0,fp,.slice none 0 0]++[sv nA,.bool false,.slice none 0 0,.slice (some ⟨ba,0,none⟩) 1 1,.slice none 0 0,.slice none 0 0,.slice none 0 0]++[sv nB,.bool false,.slice none 0 0,.slice (some ⟨bb,0,none⟩) 1 1,.slice none 0 0,fb,.slice none 0 0]++[sv nQ,.bool false,.slice none 0 0,.slice (some ⟨bc,0,none⟩) 2 2,.slice none 0 0,.slice none 0 0,.slice none 0 0]
def uF (ua:Value):List Value:=[sv nP,.slice none 0 0,.slice none 0 0,ua,.slice none 0 0,.slice none 0 0]
def uI (rn rd:Value):List Value:=[sv nP,.slice none 0 0,rn,.slice none 0 0,rd,.slice none 0 0]
def kQ (se:Value):List Value:=[sv nA,.slice none 0 0,.slice none 0 0,.slice none 0 0,.slice none 0 0,.slice none 0 0,sv nB,.slice none 0 0,.slice none 0 0,.slice none 0 0,.slice none 0 0,se]
theorem ls_four {α : Type} [Enc α] {R:Res} {b:Nat} {p q r s : α} {u1 u2 u3 u4:List Value} (h1:Enc.rep R u1 p) (h2:Enc.rep R u2 q) (h3:Enc.rep R u3 r) (h4:Enc.rep R u4 s) (g1:Rds R b 0 u1) (g2:Rds R b (1 * Enc.sz α) u2) (g3:Rds R b (2 * Enc.sz α) u3) (g4:Rds R b (3 * Enc.sz α) u4) (hb:4 * Enc.by' α ≤ reachBytes):Ls R (.slice (some ⟨b,0,none⟩) 4 4) [p,q,r,s]:=
 ⟨⟨some ⟨b,0,none⟩,4,rfl,Nat.le_refl _,by decide,(λh=>by cases h),λi z hi=>by
  match i,hi with
  | 0,hi=>cases hi; exact ⟨b,0,u1,rfl,Enc.len h1,by rw [Nat.zero_mul,Nat.add_zero]; exact g1,h1⟩
  | 1,hi=>cases hi; exact ⟨b,0,u2,rfl,Enc.len h2,by rw [Nat.zero_add]; exact g2,h2⟩
  | 2,hi=>cases hi; exact ⟨b,0,u3,rfl,Enc.len h3,by rw [Nat.zero_add]; exact g3,h3⟩
  | 3,hi=>cases hi; exact ⟨b,0,u4,rfl,Enc.len h4,by rw [Nat.zero_add]; exact g4,h4⟩⟩,hb⟩
section
variable {X Zq:Res} {v:Value} {l:FS}
theorem EK {n:Nm} {b:Nat} (hb:Rds Zq b 0 [sv uE]):Enc.rep Zq (exF 2 n b 0) (rP n)/\Enc.rep Zq (exF 1 n b 1) (H5 n):=by
 have hc:Ls Zq (.slice (some ⟨b,0,none⟩) 1 1) [uE]:=jG (ux:=[sv uE]) rfl hb<|by decide
 exact ⟨⟨_,_,[.int .i64 0,sv [],.slice none 0 0,.bool false,.bool false],_,_,_,_,_,_,Z,hc,Ls.nil,gH (t:=ty0) Z lh,Ls.nil,Ls.nil,Z⟩,⟨_,_,[.int .i64 1,sv [],.slice none 0 0,.bool false,.bool false],_,_,_,_,_,_,Z,hc,Ls.nil,gH (t:=.mk 1 [] [] false false) Z lh,Ls.nil,Ls.nil,Z⟩⟩
theorem KU {bl ba bb bc:Nat} {fp fb rn ua rd se:Value} {und red sel:List Nm} (h1:Rds Zq bl 0 (qE ba bb bc fp fb)) (h2:Rds Zq ba 0 (uF ua)) (h3:Rds Zq bb 0 (uI rn rd)) (h4:Rds Zq bc 0 (kQ se))
  (hfp:Ls Zq fp [rP na,H5 nn]) (hfb:Ls Zq fb [rP nb]) (hrn:Ls Zq rn [(⟨na,nb⟩:Pn)]) (hua:Ls Zq ua und) (hrd:Ls Zq rd red) (hse:Ls Zq se sel):Ls Zq (.slice (some ⟨bl,0,none⟩) 4 4) (AY und red sel):=by
 have pA:Ls Zq (.slice (some ⟨ba,0,none⟩) 1 1) [(⟨nP,[],[],und,[],[]⟩:Pt)]:=jG (ux:=uF ua) ⟨_,_,_,_,_,rfl,lh,Ls.nil,hua,Ls.nil,Ls.nil⟩ h2<|by decide
 have pB:Ls Zq (.slice (some ⟨bb,0,none⟩) 1 1) [(⟨nP,[],[⟨na,nb⟩],[],red,[]⟩:Pt)]:=jG (ux:=uI rn rd) ⟨_,_,_,_,_,rfl,lh,hrn,Ls.nil,hrd,Ls.nil⟩ h3<|by decide
 have pC:Ls Zq (.slice (some ⟨bc,0,none⟩) 2 2) [(⟨nA,[],[],[],[],[]⟩:Pt),⟨nB,[],[],[],[],sel⟩]:=Ez (ux:=(kQ se).take 6) (uy:=(kQ se).drop 6) ⟨_,_,_,_,_,rfl,lh,Ls.nil,Ls.nil,Ls.nil,Ls.nil⟩ ⟨_,_,_,_,_,rfl,lh,Ls.nil,Ls.nil,Ls.nil,hse⟩ (bD (k:=0) h4 rfl) (by have:=bD (k:=6) (vs:=(kQ se).drop 6) h4 rfl; rwa [Nat.zero_add] at this)<|by decide
 have g:=λ(k:Nat) (vs:List Value) (h:((qE ba bb bc fp fb).drop k).take vs.length=vs)=>(by have:=bD (k:=k) h1 h; rwa [Nat.zero_add] at this:Rds Zq bl k vs)
 exact ls_four (u1:=(qE ba bb bc fp fb).take 7) (u2:=((qE ba bb bc fp fb).drop 7).take 7) (u3:=((qE ba bb bc fp fb).drop 14).take 7) (u4:=(qE ba bb bc fp fb).drop 21)
  ⟨_,_,_,_,_,rfl,Ls.nil,Ls.nil,rfl,hfp,Ls.nil⟩ ⟨_,_,_,_,_,rfl,Ls.nil,pA,rfl,Ls.nil,Ls.nil⟩ ⟨_,_,_,_,_,rfl,Ls.nil,pB,rfl,hfb,Ls.nil⟩ ⟨_,_,_,_,_,rfl,Ls.nil,pC,rfl,Ls.nil,Ls.nil⟩ (g 0 _ rfl) (g 7 _ rfl) (g 14 _ rfl) (g 21 _ rfl) (by decide)
attribute [local irreducible] Go.Ck.Sub St Cd Xt Nx DrL LsW
theorem KV (n:Nm):Ct prog 109 #[sv n] [] λu h'=>∃ b,u = .agg (exF 2 n b 0).toArray/\h'=[pt b (cl [sv uE] 9)]:=by
 refine aL (n:=6) func109 Z Z (len Z) λhr w0=>?_
 refine cQ (ax lL λb2=>?_)
 refine sN<|nT<|cQ<|sM Z (ak (cells:=[sv uE]) Z underlying40 gm Z Z Zz (ltn Z) λb4=>?_)
 refine sV (aQ (cells:=exF 2 n b4 0) Z<|λ_=>Zz) ?_
 refine ai Z Z jW Z Z ?_
 refine sK [2] Z<|cT ?_
 exact bF (.cellN Z om Z slq .nil) ⟨b4,Z,Z⟩ sbr
theorem Mt (n:Nm):Ct prog 110 #[sv n] [] λu h'=>∃ b,u = .agg (exF 1 n b 1).toArray/\h'=[pt b (cl [sv uE] 9)]:=by
 refine aL (n:=7) func110 Z Z (len Z) λhr w0=>?_
 refine cQ (ax lL λb2=>?_)
 refine sN<|nT<|cQ<|sM Z (ak (cells:=[sv uE]) Z underlying40 gm Z Z Zz (ltn Z) λb4=>?_)
 refine sV (aQ (cells:=[.int .i64 1,sv [],.slice none 0 0,.bool false,.bool false]) Z<|λ_=>Zz) ?_
 refine sV (aQ (cells:=exF 1 n b4 1) Z<|λ_=>Zz) ?_
 refine ai Z Z jW Z Z ?_
 refine sK [2] Z<|cT ?_
 exact bF (.cellN Z om Z slq .nil) ⟨b4,Z,Z⟩ sbr
theorem Mv:CtX prog 48 #[] X [] λu Y k'=>∃ bl ba bb bc fp fb rn rd,u = .slice (some ⟨bl,0,none⟩) 4 4/\k'=[pt bl (cl (qE ba bb bc fp fb) 44),pt ba (cl (uF (.slice none 0 0)) 88),pt bb (cl (uI rn rd) 88),pt bc (cl (kQ (.slice none 0 0)) 88)]/\Ls Y fp [rP na,H5 nn]/\Ls Y fb [rP nb]/\Ls Y rn [(⟨na,nb⟩:Pn)]/\Ls Y rd [nb]:=by
 unfold CtX
 refine aL (n:=29) func48 Z Z (len Z) λhr w0=>?_
 refine cQ<|sA Z<|sN<|nT<|cQ<|aH Z Z en109 Z (KV na) ?_
 rintro u h' ⟨q1,rfl,rfl⟩
 simp only [lC,lN]
 refine aH Z Z en110 Z (Mt nn) ?_
 rintro u h' ⟨q2,rfl,rfl⟩
 simp only [lC,lN]
 refine ak (cells:=exF 2 na q1 0++exF 1 nn q2 1) Z underlying41 Nk Z Z Zz (ltn Z) λb7=>?_
 refine sV (aQ (cells:=[sv nP,.bool false,.slice none 0 0,.slice none 0 0,.slice none 0 0,.slice (some ⟨b7,0,none⟩) 2 2,.slice none 0 0]) Z<|λ_=>Zz) ?_
 refine ax oq λb1=>?_
 refine ai Z Z kW Z Z ?_
 refine sK [0,1] Z<|cQ<|sV (aQ (cells:=uF<|.slice none 0 0) Z<|λ_=>Zz) ?_
 refine ak (cells:=uF<|.slice none 0 0) Z underlying39 inf88 Z Z Zz (ltn Z) λb10=>?_
 refine sV (aQ (cells:=[sv nA,.bool false,.slice none 0 0,.slice (some ⟨b10,0,none⟩) 1 1,.slice none 0 0,.slice none 0 0,.slice none 0 0]) Z<|λ_=>Zz) ?_
 refine ax oq λb2=>?_
 refine ai Z Z kW Z Z ?_
 refine sK [0,1,2] Z<|cQ<|sV (aQ (cells:=[sv na,sv nb]) Z<|λ_=>Zz) ?_
 refine ak (cells:=[sv na,sv nb]) Z underlying86 inf143 Z Z Zz (ltn Z) λb13=>?_
 refine ak (cells:=[sv nb]) Z underlying40 gm Z Z Zz (ltn Z) λb14=>?_
 refine sV (aQ (cells:=uI (.slice (some ⟨b13,0,none⟩) 1 1)<|.slice (some ⟨b14,0,none⟩) 1 1) Z<|λ_=>Zz) ?_
 refine ak (cells:=uI (.slice (some ⟨b13,0,none⟩) 1 1)<|.slice (some ⟨b14,0,none⟩) 1 1) Z underlying39 inf88 Z Z Zz (ltn Z) λb16=>?_
 refine aH Z Z en109 Z (KV nb) ?_
 rintro u h' ⟨q3,rfl,rfl⟩
 simp only [lC,lN]
 refine ak (cells:=exF 2 nb q3 0) Z underlying41 Nk Z Z Zz (ltn Z) λb18=>?_
 refine sV (aQ (cells:=[sv nB,.bool false,.slice none 0 0,.slice (some ⟨b16,0,none⟩) 1 1,.slice none 0 0,.slice (some ⟨b18,0,none⟩) 1 1,.slice none 0 0]) Z<|λ_=>Zz) ?_
 refine ax oq λb3=>?_
 refine ai Z Z kW Z Z ?_
 refine sK [0,1,2,3] Z<|cQ<|sV (aQ (cells:=[sv nA,.slice none 0 0,.slice none 0 0,.slice none 0 0,.slice none 0 0,.slice none 0 0]) Z<|λ_=>Zz) ?_
 refine sV (aQ (cells:=[sv nB,.slice none 0 0,.slice none 0 0,.slice none 0 0,.slice none 0 0,.slice none 0 0]) Z<|λ_=>Zz) ?_
 refine ak (cells:=kQ<|.slice none 0 0) Z underlying39 inf88 Z Z Zz (ltn Z) λb22=>?_
 refine sV (aQ (cells:=[sv nQ,.bool false,.slice none 0 0,.slice (some ⟨b22,0,none⟩) 2 2,.slice none 0 0,.slice none 0 0,.slice none 0 0]) Z<|λ_=>Zz) ?_
 refine ax oq λb4=>?_
 refine ai Z Z kW Z Z ?_
 refine sK [0,1,2,3,4] Z<|cQ<|sV (af Z gp Z ah) ?_
 refine sV (af Z gp Z ah) ?_
 refine sV (af Z gp Z ah) ?_
 refine sV (af Z gp Z ah) ?_
 refine ak (cells:=qE b10 b16 b22 (.slice (some ⟨b7,0,none⟩) 2 2)<|.slice (some ⟨b18,0,none⟩) 1 1) Z underlying22 zL Z Z Zz (ltn Z) λb28=>?_
 refine sA Z<|sK [0] Z<|cT (iy [pt q1 (cl [sv uE] 9),pt q2 (cl [sv uE] 9),pt q3 (cl [sv uE] 9),pt b7 (cl (exF 2 na q1 0++exF 1 nn q2 1) 130),pt b13 (cl [sv na,sv nb] 143),pt b14 (cl [sv nb] 9),pt b18 (cl (exF 2 nb q3 0) 130)] X λY hE hsel=>?_)
 have r1:Rds Y q1 0 [sv uE]:=λi hi=>hsel _ _ .here _ _<|ah i hi
 have r2:Rds Y q2 0 [sv uE]:=λi hi=>hsel _ _ (.there .here) _ _<|ah i hi
 have r3:Rds Y q3 0 [sv uE]:=λi hi=>hsel _ _ (.there<|.there .here) _ _<|ah i hi
 have r4:Rds Y b7 0 (exF 2 na q1 0++exF 1 nn q2 1):=λi hi=>hsel _ _ (.there<|.there<|.there .here) _ _<|ah i hi
 have r5:Rds Y b13 0 [sv na,sv nb]:=λi hi=>hsel _ _ (.there<|.there<|.there<|.there .here) _ _<|ah i hi
 have r6:Rds Y b14 0 [sv nb]:=λi hi=>hsel _ _ (.there<|.there<|.there<|.there<|.there .here) _ _<|ah i hi
 have r7:Rds Y b18 0 (exF 2 nb q3 0):=λi hi=>hsel _ _ (.there<|.there<|.there<|.there<|.there<|.there .here) _ _<|ah i hi
 have hfp:Ls Y (.slice (some ⟨b7,0,none⟩) 2 2) [rP na,H5 nn]:=Ez (ux:=exF 2 na q1 0) (uy:=exF 1 nn q2 1) (EK r1).1 (EK r2).2 (bD (k:=0) r4 rfl) (by have:=bD (k:=15) (vs:=exF 1 nn q2 1) r4 rfl; rwa [Nat.zero_add] at this) (by decide)
 exact aj Z ⟨Y,_,Z,hE,b28,b10,b16,b22,_,_,_,_,Z,Z,hfp,jG (ux:=exF 2 nb q3 0) (EK r3).1 r7 (by decide),jG (p:=(⟨na,nb⟩:Pn)) (ux:=[sv na,sv nb]) Z r5 (by decide),jG (p:=nb) (ux:=[sv nb]) Z r6<|by decide⟩ sbq
theorem is_ct (hX:Spc X) (hl:Ls X v l) (hS:iL l) {x:Cf} (h1:il l=(x,true,0)) (h2:lU l x=0):dQ prog 49 #[v,cfV x] X [] λu Y k'=>k'=[]/\u = .bool true:=by
 obtain ⟨vAq,vK,rfl,_⟩:=id hl.form
 have hc:=AX hX hl hS
 have hk:=λ(Y:Res) (hE:Ext X Y)=>Bp (hX.up hE) (hl.up hE) hS x
 rw [h1] at hc
 rw [h2] at hk
 unfold dQ cfV cfC at *
 refine fQ (n:=30) func49 Z Z (len Z) λhr w0 hw0=>?_
 refine cQ (aV Z Z λb3=>?_)
 refine sA Z<|sK [0,3,4] Z<|cQ<|sM Z<|bL hw0 Z Z en12 Z (hc) ?_
 rintro u h' ⟨Y,k',rfl,hE,rfl,rfl⟩
 simp only [lC,lN]
 refine sM Z<|sV (ag Z Z)<|sV (ag Z Z)<|sV (ag Z Z) (ax zQ λb5=>?_)
 refine ai Z Z tK Z Z ?_
 refine sA Z<|sA Z<|sK [0,3,4,5,6,7] Z<|cQ<|sM Z<|sV (dD Z Z)<|sM Z<|sG Z Z (vM Z)<|sV (vQ Z Z)<|sM Z<|sG Z Z (af Z qP Z ah) ?_
 refine sG Z Z (af Z qP Z ah) ?_
 refine sG Z Z (v_eqC (a:=x) (b:=x) Z Z) ?_
 rw [decide_eq_true (rfl:x=x)]
 refine sV (vQ Z Z)<|sM Z<|sG Z Z (vM Z)<|sG Z Z (af Z qP Z ah) ?_
 refine kF Z Z<|bL hw0 Z Z en14 Z (hk Y hE) ?_
 rintro u h' ⟨Zq,k',rfl,hE2,rfl,rfl⟩
 simp only [lC,lN]
 refine sG Z Z (dD Z Z)<|sV (vQ Z Z)<|sA Z<|sK [4] Z<|cT ?_
 exact aj Z ⟨Zq,[],Z,hE.trans hE2,Z,Z⟩ sbq
end
end Go.Fl
namespace Go.Ck
open Go Go.RowKit
theorem vw_un {T:Res} {K t:SH}:Vw (T::Res.star K::t) (K++(T::t)):=λ_ hh=>dn.1<|hh.perm<|.swap _ _ _
end Go.Ck
namespace Go.Fl
open Go Go.RowKit Go.Ck Go.Proofs Go.Proofs.Tryz Go.Proofs.YtknmacdbffgjgaaGreatDoor Fx Go.Hr
theorem eqs24:EqS prog 24 2:=EqS.of underlying24 Zz Zz Zz rfl
theorem wm (und red sel:List Nm) (h1:und.length≤12) (h2:red.length≤12) (h3:sel.length≤12):iL (AY und red sel):=λc hc p hp=>by
 simp only [AY,List.mem_cons,List.mem_nil_iff,or_false] at hc
 rcases hc with rfl | rfl | rfl | rfl <;> simp only [exPc,exAc,exBc,exQc,List.mem_cons,List.mem_nil_iff,or_false] at hp
 ·subst hp; exact ⟨by simp,h1,by simp,by simp⟩
 ·subst hp; exact ⟨by simp,by simp,h2,by simp⟩
 ·rcases hp with rfl | rfl
  ·exact ⟨by simp,by simp,by simp,by simp⟩
  ·exact ⟨by simp,by simp,by simp,h3⟩
theorem lenC3 {ms:List Mb} {a b c:Nm} (h:(ms.map λm=>m.name)=[a,b,c]):ms.length=3/\∃ m,ms[2]? = some m/\m.name=c:=by
 match ms,h with
 | [x,y,z],h=>simp at h; exact ⟨rfl,z,rfl,h.2.2⟩
theorem lenB2 {ms:List Mb} {a b:Sd×List Sd} (h:(ms.map λm=>(m.impl,m.seeds))=[a,b]):ms.length=2/\∃ m,ms[0]? = some m/\m.impl=a.1/\m.seeds=a.2:=by
 match ms,h with
 | [x,y],h=>simp at h; exact ⟨rfl,x,rfl,by rw [<- h.1],by rw [<- h.1]⟩
attribute [local irreducible] Go.Ck.Sub St Cd Xt Nx DrL LsW
section
variable {X:Res}
theorem Mw (hX:Spc X):dQ prog 11 #[] X [] λu Y k'=>k'=[]/\u = .bool true:=by
 have hml:maxLen=9223372036854775807:=rfl
 have hs0:=λ(Y:Res)=>Mv (X:=Y)
 unfold dQ
 unfold CtX at hs0
 refine fQ (n:=193) func11 Z Z (len Z) λhr w0 hw0=>?_
 refine cQ<|sA Z<|sN<|nT<|cQ<|aH Z Z en48 Z ((hs0 X)) ?_
 rintro u h' ⟨Y,k',rfl,hE,bl,ba,bb,bc,fp,fb,rn,rd,rfl,rfl,hfp,hfb,hrn,hrd⟩
 simp only [lC,lN]
 refine sA Z<|sK [0,1] Z<|cQ<|sM Z<|sV (aQ (cells:=[sv nP,sv na]) Z<|λ_=>Zz) ?_
 refine sV (aQ (cells:=[.int .i64 11,sv nQ,sv na,sv nb,sv nP,sv na,sv [],sv []]) Z<|λ_=>Zz) ?_
 refine ql (um (L:=[pt bl (cl (qE ba bb bc fp fb) 44),pt ba (cl (uF<|.slice none 0 0) 88),pt bb (cl (uI rn rd) 88),pt bc (cl (kQ<|.slice none 0 0) 88)]) (X:=Y) (by repeat (first | exact Pk.nil | (apply Pk.cons; (repeat (first | exact Sel.here | apply Sel.there)))))) ?_
 have hZ:Ext X (Res.star ([pt bl (cl (qE ba bb bc fp fb) 44),pt ba (cl (uF<|.slice none 0 0) 88),pt bb (cl (uI rn rd) 88),pt bc (cl (kQ<|.slice none 0 0) 88)]++[Y])):=hE.trans<|Ext.packs Y _
 have hY:∀ p u,Rd Y p u->Rd (Res.star ([pt bl (cl (qE ba bb bc fp fb) 44),pt ba (cl (uF<|.slice none 0 0) 88),pt bb (cl (uI rn rd) 88),pt bc (cl (kQ<|.slice none 0 0) 88)]++[Y])) p u:=(Ext.packs Y _).rd
 have hl1:Ls (Res.star ([pt bl (cl (qE ba bb bc fp fb) 44),pt ba (cl (uF<|.slice none 0 0) 88),pt bb (cl (uI rn rd) 88),pt bc (cl (kQ<|.slice none 0 0) 88)]++[Y])) (.slice (some ⟨bl,0,none⟩) 4 4) ex1:=KU (λi hi=>gz .here _ _<|ah i hi) (λi hi=>gz (.there .here) _ _<|ah i hi) (λi hi=>gz (.there<|.there .here) _ _<|ah i hi) (λi hi=>gz (.there<|.there<|.there .here) _ _<|ah i hi) (hfp.up' hY) (hfb.up' hY) (hrn.up' hY) Ls.nil (hrd.up' hY) Ls.nil
 have his:=is_ct (hX.up hZ) hl1 (wm _ _ _ (by decide) (by decide)<|by decide) Mk Ml
 unfold dQ cfV cfC at his
 refine bL hw0 Z Z en49 Z (his) ?_
 rintro u h' ⟨W,k',rfl,hW,rfl,rfl⟩
 obtain ⟨T,hT⟩:=hW.vw
 refine ql (hT _)<|ql vw_un ?_
 clear hZ hY hl1 his hW hT
 simp only [lC,lN]
 unfold qE uF uI kQ
 simp only [lC,lN]
 refine sA Z<|sK [0,1,2] Z<|cQ<|sM Z<|sV (vI (k:=3) Z Z qy Z (by decide) Z) ?_
 refine sV (vF Z fC Z)<|sV (vY Z mi) ?_
 refine ak (cells:=[sv nb]) Z underlying40 gm Z Z Zz (ltn Z) λb28=>?_
 refine sV (vI (k:=1) Z Z oV Z (by decide) Z) ?_
 refine sV (vF Z zP Z)<|bf Z Z yn ?_
 refine kI [pt bl (cl (qE ba bb bc fp fb) 44),pt ba (cl (uF<|.slice none 0 0) 88),pt bb (cl (uI rn rd) 88),pt bc (cl (kQ<|.slice (some ⟨b28,0,none⟩) 1 1) 88),pt b28 (cl [sv nb] 9)] Y λZq hZ hsel=>?_
 have hXZ:=hE.trans hZ
 have hS2:=wm [] [nb] [nb] (by decide) (by decide)<|by decide
 have hl2:Ls Zq (.slice (some ⟨bl,0,none⟩) 4 4) ex2:=KU (λi hi=>hsel _ _ .here _ _<|ah i hi) (λi hi=>hsel _ _ (.there .here) _ _<|ah i hi) (λi hi=>hsel _ _ (.there<|.there .here) _ _<|ah i hi) (λi hi=>hsel _ _ (.there<|.there<|.there .here) _ _<|ah i hi) (hfp.up hZ) (hfb.up hZ) (hrn.up hZ) Ls.nil (hrd.up hZ)<|jG (p:=nb) (ux:=[sv nb]) rfl (λi hi=>hsel _ _ (.there<|.there<|.there<|.there .here) _ _<|ah i hi)<|by decide
 clear hsel hfp hfb hrn hrd hZ hE
 have hq1:=Du (hX.up hXZ) hl2 hS2 nQ
 unfold dQ at hq1
 rw [H6.1] at hq1
 refine sK [0,1,2] Z<|cQ<|sM Z<|bL hw0 Z Z en45 Z (hq1) ?_
 rintro u h' ⟨Z1,k',rfl,hZ1,rfl,us,rfl,hr1⟩
 simp only [lC,lN]
 clear hq1
 have hr1:Enc.rep Z1 us (eQ ex2 nQ).1:=hr1
 obtain ⟨c3,cm,cm2,cmn⟩:=lenC3 H6.2.2
 generalize (eQ ex2 nQ).1=G1 at hr1 c3 cm2
 have ho1:=Enc.ones hr1
 obtain ⟨x1,x2,rfl,hx1,hx2⟩:=hr1
 refine sM Z<|sV (ag Z Z)<|sV (ag Z Z) (ax al55 λb3=>?_)
 refine ai Z Z zH Z ho1 ?_
 refine sA Z<|sK [0,1,2,3,4] Z<|cQ<|sM Z ?_
 have hq2:=Du (hX.up<|hXZ.trans hZ1) (hl2.up hZ1) hS2 nB
 unfold dQ at hq2
 rw [Dw.1] at hq2
 refine bL hw0 Z Z en45 Z (hq2) ?_
 rintro u h' ⟨Z2,k',rfl,hZ2,rfl,us,rfl,hr2⟩
 simp only [lC,lN]
 clear hq2
 have hr2:Enc.rep Z2 us (eQ ex2 nB).1:=hr2
 obtain ⟨d3,dm,dm2,dmi,dms⟩:=lenB2 Dw.2
 generalize (eQ ex2 nB).1=G2 at hr2 d3 dm2
 have ho2:=Enc.ones hr2
 obtain ⟨y1,y2,rfl,hy1,hy2⟩:=hr2
 refine sM Z<|sV (ag Z Z)<|sV (ag Z Z) (ax al55 λb5=>?_)
 refine ai Z Z zH Z ho2 ?_
 refine sA Z<|sK [0,1,2,3,4,5,6] Z<|cQ<|sM Z<|sV (aQ (cells:=[sv nP,sv na]) Z<|λ_=>Zz) ?_
 have hZ12:=hZ1.trans hZ2
 have hq3:=OW (hX.up<|hXZ.trans hZ12) (hl2.up hZ12) hS2 nQ ⟨nP,na⟩
 unfold dQ at hq3
 rw [Ms] at hq3
 refine bL hw0 Z Z en35 Z (hq3) ?_
 rintro u h' ⟨Z3,k',rfl,hZ3,rfl,w,rfl,hw⟩
 simp only [lC,lN]
 clear hq3
 have hZ13:=hZ12.trans hZ3
 have hw:Ls Z3 w [na,nb]:=hw
 have hwo:=hw.one
 refine sM Z<|sV (ag Z Z)<|sV (ag Z Z)<|sA Z<|sA Z<|sK [0,1,2,3,4,5,6,7,8] Z<|cQ<|sM Z ?_
 have hq4:=JF (hX.up<|hXZ.trans hZ13) (hl2.up hZ13) hS2 nQ nP na
 unfold dQ at hq4
 rw [H8] at hq4
 refine bL hw0 Z Z en29 Z (hq4) ?_
 rintro u h' ⟨Z4,k',rfl,hZ4,rfl,rfl⟩
 simp only [lC,lN]
 clear hq4
 have hZ14:=hZ13.trans hZ4
 refine sM Z<|sV (ag Z Z)<|sV (ag Z Z)<|sA Z<|sA Z<|sK [0,1,2,3,4,5,6,7,8,9,10] Z<|cQ<|sM Z ?_
 have hq5:=JE (hX.up<|hXZ.trans hZ14) (hl2.up hZ14) hS2 nQ nn
 unfold dQ at hq5
 rw [H7] at hq5
 refine bL hw0 Z Z en50 Z (hq5) ?_
 rintro u h' ⟨Z5,k',rfl,hZ5,rfl,ow,rfl,how⟩
 simp only [lC,lN]
 clear hq5
 have how:Ls Z5 ow [(⟨nA,nn⟩:Og),⟨nB,nn⟩]:=how
 have hXZ5:=hXZ.trans<|hZ14.trans hZ5
 have hx1:=hx1.up<|hZ2.trans<|hZ3.trans<|hZ4.trans hZ5
 have hy1:=hy1.up<|hZ3.trans<|hZ4.trans hZ5
 have hw:=hw.up<|hZ4.trans hZ5
 clear hx2 hy2 hl2 hZ1 hZ2 hZ12 hZ3 hZ13 hZ4 hZ14 hZ5
 obtain ⟨xb,xo,xcap,mus,e1,_,hmrd,hmr⟩:=hx1.at cm2
 obtain ⟨yb,yo,ycap,nus,e2,_,hnrd,hnr⟩:=hy1.at dm2
 obtain ⟨ob,oo,ocap,o0,e3,_,hord0,ho0⟩:=how.at (i:=0) rfl
 obtain ⟨ob',oo',ocap',o1,e3',_,hord1,ho1'⟩:=how.at (i:=1) rfl
 subst e1 e2 e3
 cases e3'
 obtain rfl:o0=[sv nA,sv nn]:=ho0
 obtain rfl:o1=[sv nB,sv nn]:=ho1'
 rw [c3] at *
 rw [d3] at *
 obtain ⟨m2,m5,my,m11,m12,m13,rfl,-⟩:=dI hmr
 obtain ⟨n2,n5,ny,n11,n12,n13,rfl,hn2,-⟩:=dI hnr
 rw [dms] at hn2
 obtain ⟨sb,so,scap,sus,e4,_,hsrd,hsr⟩:=hn2.at (i:=0) rfl
 obtain rfl:sus=[sv nP,sv na]:=hsr
 subst e4
 obtain ⟨wA,wK,rfl,_⟩:=id hw.form
 have hone3:∀ b96:Nat,Reads prog 51 #[.slice wA [na,nb].length wK,.slice (some ⟨b96,0,none⟩) 2 2] [pt b96 (cl [sv na,sv nb] 9),Z5] (.bool true):=λb96=>by
  have h:=KL (X:=Res.star [pt b96 (cl [sv na,sv nb] 9),Z5]) (hw.up'<|bH<|.there .here) (Ez (p:=na) (q:=nb) (ux:=[sv na]) (uy:=[sv nb]) rfl rfl (λi hi=>by match i,hi with | 0,_=>exact bH .here _ _ (bU rfl)) (λi hi=>by match i,hi with | 0,_=>exact bH .here _ _ (bU rfl)) (by decide):Ls (Res.star [pt b96 (cl [sv na,sv nb] 9),Z5]) (.slice (some ⟨b96,0,none⟩) 2 2) [na,nb])
  rw [decide_eq_true (rfl:[na,nb]=[na,nb])] at h
  exact eG h
 refine sM Z<|sV (ag Z Z)<|sV (ag Z Z)<|sA Z<|sA Z<|sK [0,1,2,3,4,5,6,7,8,9,10,11,12] Z<|cS<|cQ<|sM Z<|sV (bM Z Z)<|sM Z<|sG Z Z (vM Z)<|sG Z Z (bM Z Z) ?_
 refine sV (vP Z Z)<|sM Z<|sG Z Z (vM Z)<|sG Z Z (bM Z Z)<|sV (vP Z Z)<|sM Z<|sG Z Z (vM Z)<|sG Z Z (bM Z Z)<|sV (vP Z Z)<|sM Z<|sG Z Z (vM Z)<|sG Z Z (bM Z Z)<|sV (vP Z Z)<|sM Z ?_
 refine sG Z Z (vF Z kH Z)<|sG Z Z (vY Z oW) ?_
 refine sG Z Z (aF Z underlying52)<|sG Z Z (bM Z Z)<|sV (vP Z Z)<|sM Z<|sG Z Z (vF Z kH Z)<|sG Z Z (vY Z oW) ?_
 refine sG Z Z (aF Z underlying52)<|sG Z Z (bM Z Z)<|sV (vP Z Z)<|sM Z<|sG Z Z (vM Z)<|sG Z Z (aF Z underlying104)<|sG Z Z (bM Z Z)<|sV (vP Z Z)<|sK [0,1,2,3,5,7,9,11,91] Z<|aG Z ?_
 refine cK<|xT<|cQ<|sM Z<|sV (gQ Z Z)<|sM Z<|sG Z Z (vM Z)<|kF Z Z (ak (cells:=[sv na,sv nb]) Z underlying40 gm Z Z Zz (ltn Z) λb96=>?_)
 refine bR Z Z Z Z en51 Z (hone3 b96) ?_
 refine sV (vQ Z Z)<|sM Z<|sG Z Z (vF Z kH Z)<|sG Z Z (vY Z oW) ?_
 have hc0:Rd Z5 ⟨xb,xo+2 * 14+0,none⟩ (sv nn):=by rw [<- cmn]; exact mZ (k:=0) hmrd rfl
 have hc1:Rds Z5 yb (yo+0 * 14+3) [sv nB,sv nb]:=by
  have h:=bD (k:=3) (vs:=[sv dm.impl.cls,sv dm.impl.name]) hnrd rfl
  rw [dmi] at h; exact h
 have hc2:=mZ (k:=2) hnrd rfl
 refine sG Z Z (vI (k:=2) Z Z nU Z (by decide) Z) ?_
 refine sG Z Z (vF Z eD Z)<|sG Z Z (vY Z ld9 (ha:=⟨Z5,_,slq,hc0⟩)) ?_
 refine sG Z Z (gQ Z Z)<|sV (vQ Z Z)<|sM Z<|sG Z Z (vF Z kH Z)<|sG Z Z (vY Z oW) ?_
 refine sG Z Z (vI (k:=0) Z Z nU Z (by decide) Z) ?_
 refine sG Z Z (vF Z wH Z)<|sG Z Z (af Z ic Z hc1) ?_
 refine sG Z Z (aQ (cells:=[sv nB,sv nb]) Z<|λ_=>Zz) ?_
 refine sG Z Z (jo vT Z Z)<|sV (vQ Z Z)<|sM Z<|sG Z Z (vF Z kH Z)<|sG Z Z (vY Z oW) ?_
 refine sG Z Z (vI (k:=0) Z Z nU Z (by decide) Z) ?_
 refine sG Z Z (vF Z eF Z)<|sG Z Z (vY Z oZ (ha:=⟨Z5,_,slq,hc2⟩)) ?_
 refine sG Z Z (vI (k:=0) Z Z nX Z (by decide) Z) ?_
 refine sG Z Z (af Z ic Z hsrd) ?_
 refine sG Z Z (aQ (cells:=[sv nP,sv na]) Z<|λ_=>Zz) ?_
 refine sG Z Z (jo vT Z Z)<|sV (vQ Z Z)<|sM Z<|sG Z Z (vM Z)<|sG Z Z (vI (k:=0) Z Z sl104 Z (by decide) Z) ?_
 refine sG Z Z (af Z qz Z hord0) ?_
 refine sG Z Z (aQ (cells:=[sv nA,sv nn]) Z<|λ_=>Zz) ?_
 refine sG Z Z (jo eqs24 Z Z)<|sV (vQ Z Z)<|sM Z<|sG Z Z (vM Z)<|sG Z Z (vI (k:=1) Z Z sl104 Z (by decide) Z) ?_
 refine sG Z Z (af Z qz Z hord1) ?_
 refine sG Z Z (aQ (cells:=[sv nB,sv nn]) Z<|λ_=>Zz) ?_
 refine sG Z Z (jo eqs24 Z Z)<|sV (vQ Z Z)<|sA Z<|sK [0,1,2,13] Z<|cQ ?_
 clear hone3 hc0 hc1 hc2 hmr hnr hmrd hnrd hord0 hord1 hsrd hx1 hy1 hw how hn2 hXZ
 refine aH Z Z en48 Z ((hs0 Z5)) ?_
 rintro u h' ⟨Y,k',rfl,hE,bl2,ba2,bb2,bc2,fp,fb,rn,rd,rfl,rfl,hfp,hfb,hrn,hrd⟩
 simp only [lC,lN]
 unfold qE uF uI kQ
 simp only [lC,lN]
 refine sA Z<|sK [0,1,2,13] Z<|cQ<|sM Z<|sV (vI (k:=2) Z Z qy Z (by decide) Z) ?_
 refine sV (vF Z fC Z)<|sV (vY Z mi) ?_
 refine sV (vI (k:=0) Z Z oV Z (by decide) Z) ?_
 refine sV (vF Z wL Z)<|bf Z Z yn ?_
 refine kI [pt bl2 (cl (qE ba2 bb2 bc2 fp fb) 44),pt ba2 (cl (uF<|.slice none 0 0) 88),pt bb2 (cl (uI rn<|.slice none 0 0) 88),pt bc2 (cl (kQ<|.slice none 0 0) 88)] Y λZq hZ hsel=>?_
 have hXZ:=hXZ5.trans<|hE.trans hZ
 have hl3:Ls Zq (.slice (some ⟨bl2,0,none⟩) 4 4) ex3:=KU (λi hi=>hsel _ _ .here _ _<|ah i hi) (λi hi=>hsel _ _ (.there .here) _ _<|ah i hi) (λi hi=>hsel _ _ (.there<|.there .here) _ _<|ah i hi) (λi hi=>hsel _ _ (.there<|.there<|.there .here) _ _<|ah i hi) (hfp.up hZ) (hfb.up hZ) (hrn.up hZ) Ls.nil Ls.nil Ls.nil
 clear hsel hfp hfb hrn hrd hZ hE
 have his:=is_ct (hX.up hXZ) hl3 (wm _ _ _ (by decide) (by decide)<|by decide) Mm Mo
 unfold dQ cfV cfC at his
 refine sK [0,1,2,13] Z<|cQ<|sM Z<|sV (aQ (cells:=[sv nP,sv na]) Z<|λ_=>Zz) ?_
 refine sV (aQ (cells:=[.int .i64 7,sv nB,sv nb,sv [],sv nP,sv na,sv [],sv []]) Z<|λ_=>Zz) ?_
 refine bL hw0 Z Z en49 Z (his) ?_
 rintro u h' ⟨Y3,k',rfl,hW,rfl,rfl⟩
 simp only [lC,lN]
 clear his hl3
 have hX3:=hXZ.trans hW
 clear hXZ hW hXZ5
 refine sA Z<|sK [0,1,2,13,14] Z<|cQ<|aH Z Z en48 Z ((hs0 Y3)) ?_
 rintro u h' ⟨Y,k',rfl,hE,bl3,ba3,bb3,bc3,fp,fb,rn,rd,rfl,rfl,hfp,hfb,hrn,hrd⟩
 simp only [lC,lN]
 unfold qE uF uI kQ
 simp only [lC,lN]
 refine sA Z<|sK [0,1,2,13,14] Z<|cQ<|sM Z<|sV (vI (k:=1) Z Z qy Z (by decide) Z) ?_
 refine sV (vF Z fC Z)<|sV (vY Z mi) ?_
 refine ak (cells:=[sv nn]) Z underlying40 gm Z Z Zz (ltn Z) λb157=>?_
 refine sV (vI (k:=0) Z Z oV Z (by decide) Z) ?_
 refine sV (vF Z wJ Z)<|bf Z Z yn ?_
 refine kI [pt bl3 (cl (qE ba3 bb3 bc3 fp fb) 44),pt ba3 (cl (uF<|.slice (some ⟨b157,0,none⟩) 1 1) 88),pt bb3 (cl (uI rn rd) 88),pt bc3 (cl (kQ<|.slice none 0 0) 88),pt b157 (cl [sv nn] 9)] Y λZq hZ hsel=>?_
 have hXZ:=hX3.trans<|hE.trans hZ
 have hl4:Ls Zq (.slice (some ⟨bl3,0,none⟩) 4 4) ex4:=KU (λi hi=>hsel _ _ .here _ _<|ah i hi) (λi hi=>hsel _ _ (.there .here) _ _<|ah i hi) (λi hi=>hsel _ _ (.there<|.there .here) _ _<|ah i hi) (λi hi=>hsel _ _ (.there<|.there<|.there .here) _ _<|ah i hi) (hfp.up hZ) (hfb.up hZ) (hrn.up hZ) (jG (p:=nn) (ux:=[sv nn]) rfl (λi hi=>hsel _ _ (.there<|.there<|.there<|.there .here) _ _<|ah i hi)<|by decide) (hrd.up hZ) Ls.nil
 clear hsel hfp hfb hrn hrd hZ hE
 have his:=is_ct (hX.up hXZ) hl4 (wm _ _ _ (by decide) (by decide)<|by decide) Mq Mr
 unfold dQ cfV cfC at his
 refine sK [0,1,2,13,14] Z<|cQ<|sM Z<|sV (aQ (cells:=[sv nP,sv nn]) Z<|λ_=>Zz) ?_
 refine sV (aQ (cells:=[.int .i64 4,sv nA,sv nn,sv [],sv nP,sv nn,sv [],sv []]) Z<|λ_=>Zz) ?_
 refine bL hw0 Z Z en49 Z (his) ?_
 rintro u h' ⟨Y4,k',rfl,hW,rfl,rfl⟩
 simp only [lC,lN]
 clear his hl4
 have hX4:=hXZ.trans hW
 clear hXZ hW hX3
 have hsub:∀ b167 b169:Nat,CtN prog 52 #[.agg #[.int .i64 4,sv [71],.slice none 0 0,.bool true,.bool false],.slice (some ⟨b167,0,none⟩) 1 1,.slice (some ⟨b169,0,none⟩) 1 1] [pt b167 (cl [sv [71],sv []] 111),pt b169 (cl [.int .i64 3,sv [88],.slice none 0 0,.bool false,.bool false] 73),Y4] λu T=>∃ us':List Value,u = .tuple #[.agg us'.toArray,.int .i64 0]/\Ty T us' (.mk 3 [88] [] true false):=λb167 b169=>by
  have hF:Ls (Res.star [pt b167 (cl [sv [71],sv []] 111),pt b169 (cl [.int .i64 3,sv [88],.slice none 0 0,.bool false,.bool false] 73),Y4]) (.slice (some ⟨b167,0,none⟩) 1 1) [(⟨[71],[]⟩:Fm)]:=jG (ux:=[sv [71],sv []]) rfl (λi hi=>rV .here<|ah i hi)<|by decide
  have hA:Ls (Res.star [pt b167 (cl [sv [71],sv []] 111),pt b169 (cl [.int .i64 3,sv [88],.slice none 0 0,.bool false,.bool false] 73),Y4]) (.slice (some ⟨b169,0,none⟩) 1 1) [(.mk 3 [88] [] false false:Kt)]:=jG (ux:=[.int .i64 3,sv [88],.slice none 0 0,.bool false,.bool false]) (gH (t:=.mk 3 [88] [] false false) rfl lh) (λi hi=>rV (.there .here)<|ah i hi)<|by decide
  exact j4<|LV (us:=[.int .i64 4,sv [71],.slice none 0 0,.bool true,.bool false]) (t:=.mk 4 [71] [] true false) hF hA<|gH rfl lh
 refine sA Z<|sK [0,2,13,14,15] Z<|cQ<|sV (aQ (cells:=[.int .i64 4,sv [71],.slice none 0 0,.bool true,.bool false]) Z<|λ_=>Zz) ?_
 refine sV (aQ (cells:=[sv [71],sv []]) Z<|λ_=>Zz) ?_
 refine ak (cells:=[sv [71],sv []]) Z underlying38 inf111 Z Z Zz (ltn Z) λb167=>?_
 refine sV (aQ (cells:=[.int .i64 3,sv [88],.slice none 0 0,.bool false,.bool false]) Z<|λ_=>Zz) ?_
 refine ak (cells:=[.int .i64 3,sv [88],.slice none 0 0,.bool false,.bool false]) Z underlying71 J6 Z Z Zz (ltn Z) λb169=>?_
 refine aH Z Z en52 Z (hsub b167 b169) ?_
 rintro u h' ⟨T5,rfl,us,rfl,hty⟩
 simp only [lC,lN]
 clear hsub
 have hty0:=hty
 obtain ⟨tx,rfl,htx⟩:=ed hty
 unfold tyC at *
 have hto:([.int .i64 (Kt.kind<|.mk 3 [88] [] true false),sv (Kt.name<|.mk 3 [88] [] true false),tx,.bool (Kt.void<|.mk 3 [88] [] true false),.bool (Kt.sep<|.mk 3 [88] [] true false)]:List Value).all Value.oneCell'=true:=Enc.ones (α := Kt) hty0
 refine sM Z<|sV (ag Z Z)<|sV (ag Z Z) (ax zR λb16=>?_)
 refine ai Z Z nR Z hto ?_
 have heq:=Jf (X:=T5) hty0<|gH (us:=[.int .i64 3,sv [88],.slice none 0 0,.bool true,.bool false]) (t:=.mk 3 [88] [] true false) rfl lh
 rw [decide_eq_true (rfl:(Kt.mk 3 [88] [] true false) = .mk 3 [88] [] true false)] at heq
 refine sA Z<|sK [0,2,13,14,15,16,17] Z<|cQ<|sV (af Z fH Z ah) ?_
 refine sV (aQ (cells:=[.int .i64 3,sv [88],.slice none 0 0,.bool true,.bool false]) Z<|λ_=>Zz) ?_
 refine aY Z Z en40 Z (heq) ?_
 refine sA Z<|sK [0,2,13,14,15,17,18] Z<|cQ<|sM Z<|sM Z<|sG Z Z (vM Z)<|sV (vQ Z Z)<|sM Z<|sG Z Z (vM Z)<|sV (vQ Z Z)<|sM Z<|sG Z Z (vM Z)<|sV (vQ Z Z) ?_
 refine sM Z<|sG Z Z (vM Z)<|sG Z Z (dD Z Z)<|sV (vQ Z Z)<|sM Z<|sG Z Z (vM Z)<|sV (vQ Z Z)<|sA Z<|sK [0] Z<|cT ?_
 exact aj Z ⟨Y4,[],Z,hX4,Z,Z⟩ sbq
end
end Go.Fl
namespace Go.Fl
open Go Go.RowKit Go.Ck Go.Proofs Go.Proofs.YtknmacdbffgjgaaGreatDoor Fx Go.Hr
theorem SmL.short {l:FS} (h:SmL l):iL l:=λc hc p hp=>by
 have:=(h.cls c hc).par p hp
 exact ⟨this.ren,this.und,this.red,this.sel⟩
attribute [local irreducible] Go.Ck.Sub St Cd Xt Nx DrL LsW
section
variable {X:Res} {v:Value} {l:FS}
end
end Go.Fl
