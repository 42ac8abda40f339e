/- YtiadkommiljbpaaGreatDoorNew: the image's load is the document's. No statement of the seat is proved here. -/
import Derived.Test.YtiadkommiljbpaaGreatDoorRight
set_option linter.unusedSimpArgs false
set_option linter.unusedVariables false
set_option maxRecDepth 100000
namespace Go.Proofs.YtiadkommiljbpaaGreatDoor
open Go Go.A2
theorem iter_two {S S' β:Type} {f:S→Option (Rnd S β)} {g:S'→Option (Rnd S' β)} (I:Nat→S→S'→Prop) (n:Nat) (Q:β→Prop)
  (step:∀ i s s',i < n→I i s s'→(∃ t t',f s=some (.next t)∧g s'=some (.next t')∧I (i+1) t t')∨∃ b,f s=some (.out b)∧g s'=some (.out b)∧Q b)
  (last:∀ s s',I n s s'→∃ b,f s=some (.out b)∧g s'=some (.out b)∧Q b) {s:S} {s':S'} (h0:I 0 s s') {N:Nat} (hN:n < N):
  ∃ b,iter f N s=some b∧iter g N s'=some b∧Q b:=by
 have main:∀ (m i N:Nat) (s:S) (s':S'),n - i=m→i≤n→m < N→I i s s'→∃ b,iter f N s=some b∧iter g N s'=some b∧Q b:=by
  intro m
  induction m with
  | zero=>
   intro i N s s' hm hi hN hI
   obtain ⟨N,rfl⟩:∃ M,N=M+1:=⟨N - 1,by omega⟩
   have:i=n:=by omega
   subst this
   obtain ⟨b,h1,h2,h3⟩:=last s s' hI
   exact ⟨b,by rw [iter_succ,h1],by rw [iter_succ,h2],h3⟩
  | succ m ih=>
   intro i N s s' hm hi hN hI
   obtain ⟨N,rfl⟩:∃ M,N=M+1:=⟨N - 1,by omega⟩
   rcases step i s s' (by omega) hI with ⟨t,t',h1,h2,h3⟩ | ⟨b,h1,h2,h3⟩
   ·rw [iter_succ,iter_succ,h1,h2]
    exact ih (i+1) N t t' (by omega) (by omega) (by omega) h3
   ·exact ⟨b,by rw [iter_succ,h1],by rw [iter_succ,h2],h3⟩
 exact main n 0 N s s' (by omega) (by omega) hN h0
structure Few (im:TImage):Prop where
 segs:im.Segs.l.length≤8
 data:∀ s,s∈im.Segs.l→s.Data.l.length≤300
theorem end_n (s:TSeg) (h:s.Data.l.length≤300):(W.add (W.conv .i64 s.At) (Sl.len s.Data)).n=(s.At.v+s.Data.l.length:Nat):=by
 have:=s.At.v_lt
 rw [W.add_n,W.conv_i64_v,len_n',wrap_i64]
 omega
theorem romRight (im:TImage) (hf:Few im):∃ r,F_rom_Right im=some r∧F_ref09_Right im=some r:=by
 have hn:=hf.segs
 have key:∃ o,L_rom_Right_13 (W.of .i64 0,im.Segs,Sl.len im.Segs,wi 0,())=some o∧L_ref09_Right_13 (im,W.of .i64 0,wi 0,())=some o∧True:=by
  unfold L_rom_Right_13 L_ref09_Right_13
  refine iter_two (fun i s s'=>∃ last,s=(last,im.Segs,Sl.len im.Segs,wi i,())∧s'=(im,last,wi i,())) im.Segs.l.length (fun _=>True) ?_ ?_ ⟨_,rfl,rfl⟩ (by show _ < 1048576;omega)
  ·rintro i s s' hi ⟨last,rfl,rfl⟩
   have hd:=hf.data _ (nth_mem hi)
   have e:=Sl.get_wi im.Segs hi
   have hgt:W.gt (Sl.len (nth im.Segs.l i).Data) (W.of .i64 16384)=false:=by
    have:=len_gt (s:=(nth im.Segs.l i).Data) (n:=16384) (by unfold room;omega)
    rw [show W.of .i64 16384=wi 16384 from rfl,this];simp;omega
   simp only [B_rom_Right_13,B_ref09_Right_13,ev_ite,ev_opt,ev_ret,lt_len im.Segs hi,if_true,e,bind_some',F_rom_end,T_rom_end,hgt,wi_next im.Segs hi,Bool.false_eq_true,if_false]
   cases W.eq (Sl.len (nth im.Segs.l i).Data) (W.of .i64 0) with
   | true=>exact .inr ⟨_,rfl,rfl,trivial⟩
   | false=>
    cases W.gt (W.add (W.conv .i64 (nth im.Segs.l i).At) (Sl.len (nth im.Segs.l i).Data)) (W.of .i64 16384) with
    | true=>exact .inr ⟨_,rfl,rfl,trivial⟩
    | false=>
     cases W.lt (W.conv .i64 (nth im.Segs.l i).At) last with
     | true=>exact .inr ⟨_,rfl,rfl,trivial⟩
     | false=>exact .inl ⟨_,_,rfl,rfl,_,rfl,rfl⟩
  ·rintro s s' ⟨last,rfl,rfl⟩
   simp only [B_rom_Right_13,B_ref09_Right_13,ev_ite,ev_opt,ev_ret,lt_end im.Segs,Bool.false_eq_true,if_false]
   exact ⟨_,rfl,rfl,trivial⟩
 obtain ⟨o,k1,k2,_⟩:=key
 have hgt:W.gt (Sl.len im.Segs) (W.of .i64 64)=false:=by
  rw [show W.of .i64 64=wi 64 from rfl,len_gt (sm (by omega))];simp;omega
 unfold F_rom_Right T_rom_Right F_ref09_Right T_ref09_Right
 simp only [ev_ite,ev_opt,ev_sum,ev_ret,hgt,Bool.false_eq_true,if_false,show L_rom_Right_13 (W.of .i64 0,im.Segs,Sl.len im.Segs,W.of .i64 0,())=_ from k1,show L_ref09_Right_13 (im,W.of .i64 0,W.of .i64 0,())=_ from k2,bind_some']
 cases o with
 | inl p=>exact ⟨_,rfl,rfl⟩
 | inr p=>exact ⟨_,rfl,rfl⟩
theorem part_in (size:W .i64) (im:TImage) (out:Sl 1 (W .u8)) {i:Nat} (hi:i < im.Segs.l.length) (h3:(nth im.Segs.l i).Data.l.length≤300) (hin:(nth im.Segs.l i).At.v+(nth im.Segs.l i).Data.l.length≤out.l.length) (hs:out.l.length≤16384):
  L_ref09_Load_38 (size,im,out,wi i,W.conv .i64 (nth im.Segs.l i).At,W.of .i64 0,())=some (size,im,Sl.copy out (nth im.Segs.l i).At.v (nth im.Segs.l i).Data,wi i,()):=by
 have e:=Sl.get_wi im.Segs hi
 generalize nth im.Segs.l i=y at *
 have key:∃ b,L_ref09_Load_38 (size,im,out,wi i,W.conv .i64 y.At,wi 0,())=some b∧b=(size,im,Sl.copy out y.At.v y.Data,wi i,()):=by
  unfold L_ref09_Load_38
  refine iter_acc (fun k s=>∃ o:Sl 1 (W .u8),o.l=cpL out.l y.At.v (y.Data.l.take k)∧s=(size,im,o,wi i,W.conv .i64 y.At,wi k,())) y.Data.l.length _ ?_ ?_ ⟨out,?_,rfl⟩ (by show _ < 1048576;omega)
  ·rintro k s hk ⟨o,ho,rfl⟩
   have hlo:o.l.length=out.l.length:=by rw [ho,cpL_length]
   have htk:(y.Data.l.take k).length=k:=by rw [List.length_take];omega
   have hadd:(W.add (W.conv .i64 y.At) (wi k)).n=(y.At.v+k:Nat):=by
    rw [W.add_n,W.conv_i64_v,wi_n (sm (by omega)),wrap_i64];omega
   have hidx:idx? (List.length o.l) (W.add (W.conv .i64 y.At) (wi k))=some (y.At.v+k):=by
    rw [idx?_some (by rw [hadd,hlo];omega),hadd];rfl
   simp only [B_ref09_Load_38,ev_ite,ev_opt,ev_ret,e,bind_some',lt_len y.Data hk,if_true,Sl.get_wi y.Data hk,hidx,wi_next y.Data hk]
   refine ⟨_,rfl,_,?_,rfl⟩
   show o.l.set (y.At.v+k) (nth y.Data.l k)=_
   rw [ho,take_nth hk]
   have:=cpL_next (l:=out.l) (bs:=y.Data.l.take k) (a:=y.At.v) (x:=nth y.Data.l k) (by rw [htk];omega)
   rw [htk] at this
   exact this
  ·rintro s ⟨o,ho,rfl⟩
   simp only [B_ref09_Load_38,ev_ite,ev_opt,ev_ret,e,bind_some',lt_end y.Data,Bool.false_eq_true,if_false]
   refine ⟨_,rfl,?_⟩
   have:o=Sl.copy out y.At.v y.Data:=Sl.ext (by rw [ho,List.take_length];rfl)
   rw [this]
  ·rw [List.take_zero]
   unfold cpL
   simp
 obtain ⟨b,k1,rfl⟩:=key
 exact k1
theorem romLoad (size:W .i64) (im:TImage) (hf:Few im):∃ r,F_rom_Load size im=some r∧F_ref09_Load size im=some r∧r.1.l.length≤16384:=by
 have hn:=hf.segs
 obtain ⟨c,c1,c2⟩:=romRight im hf
 unfold F_rom_Load T_rom_Load F_ref09_Load T_ref09_Load
 simp only [ev_ite,ev_opt,c1,c2,bind_some']
 cases hlt:W.lt size (W.of .i64 64) with
 | true=>
  cases W.ne (W.rem size (W.of .i64 64)) (W.of .i64 0)<;>exact ⟨_,rfl,rfl,Nat.zero_le _⟩
 | false=>
  cases hgt:W.gt size (W.of .i64 16384) with
  | true=>
   cases W.ne (W.rem size (W.of .i64 64)) (W.of .i64 0)<;>exact ⟨_,rfl,rfl,Nat.zero_le _⟩
  | false=>
   cases W.ne (W.rem size (W.of .i64 64)) (W.of .i64 0) with
   | true=>exact ⟨_,rfl,rfl,Nat.zero_le _⟩
   | false=>
    simp only [Bool.false_eq_true,if_false]
    cases W.ne c (W.of .i64 0) with
    | true=>exact ⟨_,rfl,rfl,Nat.zero_le _⟩
    | false=>
     simp only [Bool.false_eq_true,if_false]
     have s1:64≤size.n:=by
      have:¬ W.lt size (W.of .i64 64)=true:=by rw [hlt];simp
      rw [W.lt_n,show (W.of .i64 64).n=64 from rfl] at this;omega
     have s2:size.n≤16384:=by
      have:¬ W.gt size (W.of .i64 16384)=true:=by rw [hgt];simp
      rw [W.gt_n,show (W.of .i64 16384).n=16384 from rfl] at this;omega
     obtain ⟨l2,h2,h2l⟩:∃ l2:Sl 1 (W .u8),Sl.make? 1 (W.of .u8 0) size size=some l2∧l2.l.length=size.n.toNat:=by
      unfold Sl.make?
      have hr:(room:Int)=140737488355328:=by unfold room;rfl
      have hr':room=140737488355328:=by unfold room;rfl
      rw [if_pos ⟨by omega,Int.le_refl _,by omega,by omega⟩]
      unfold Sl.mk?
      rw [dif_pos ⟨by rw [List.length_replicate];omega,by rw [List.length_replicate];omega⟩]
      exact ⟨_,rfl,List.length_replicate⟩
     rw [h2]
     have key:∃ o,L_rom_Load_21 (size,l2,im.Segs,Sl.len im.Segs,wi 0,())=some o∧L_ref09_Load_21 (size,im,l2,wi 0,())=some o∧(∀ m,o=.inr ((),(),m,())→m.l.length≤16384)∧(∀ p:Sl 1 (W .u8)×W .i64×Sl 1 (W .u8)×Unit,o=.inl p→p.1.l.length≤16384):=by
      unfold L_rom_Load_21 L_ref09_Load_21
      refine iter_two (fun i s s'=>∃ m:Sl 1 (W .u8),m.l.length=size.n.toNat∧s=(size,m,im.Segs,Sl.len im.Segs,wi i,())∧s'=(size,im,m,wi i,())) im.Segs.l.length (fun o:(Sl 1 (W .u8)×W .i64×Sl 1 (W .u8)×Unit)⊕(Unit×Unit×Sl 1 (W .u8)×Unit)=>(∀ m,o=.inr ((),(),m,())→m.l.length≤16384)∧(∀ p:Sl 1 (W .u8)×W .i64×Sl 1 (W .u8)×Unit,o=.inl p→p.1.l.length≤16384)) ?_ ?_ ⟨l2,h2l,rfl,rfl⟩ (by show _ < 1048576;omega)
      ·rintro i s s' hi ⟨m,hm,rfl,rfl⟩
       have hd:=hf.data _ (nth_mem hi)
       have e:=Sl.get_wi im.Segs hi
       have hen:=end_n (nth im.Segs.l i) hd
       simp only [B_rom_Load_21,B_ref09_Load_21,ev_ite,ev_opt,ev_ret,lt_len im.Segs hi,if_true,e,bind_some',F_rom_end,T_rom_end]
       cases hg:W.gt (W.add (W.conv .i64 (nth im.Segs.l i).At) (Sl.len (nth im.Segs.l i).Data)) size with
       | true=>exact .inr ⟨_,rfl,rfl,fun m h=>(by cases h),fun p h=>by cases h;exact Nat.zero_le _⟩
       | false=>
        have hle:(nth im.Segs.l i).At.v+(nth im.Segs.l i).Data.l.length≤m.l.length:=by
         have:¬ W.gt (W.add (W.conv .i64 (nth im.Segs.l i).At) (Sl.len (nth im.Segs.l i).Data)) size=true:=by rw [hg];simp
         rw [W.gt_n,hen] at this;omega
        have hv:nat? (nth im.Segs.l i).At=some (nth im.Segs.l i).At.v:=by
         unfold nat?;rw [if_pos (W.r_u32 _).1];rfl
        have hw:vw? (List.length m.l) (some (nth im.Segs.l i).At.v) none=some ():=by
         unfold vw?;rw [if_pos ⟨by show _≤m.l.length;exact Nat.le_trans (Nat.le_add_right _ _) hle,Nat.le_refl _⟩]
        simp only [Bool.false_eq_true,if_false,hv,hw,bind_some',part_in size im m hi hd hle (by omega),wi_next im.Segs hi]
        exact .inl ⟨_,_,rfl,rfl,_,by show (cpL _ _ _).length=_;rw [cpL_length];exact hm,rfl,rfl⟩
      ·rintro s s' ⟨m,hm,rfl,rfl⟩
       simp only [B_rom_Load_21,B_ref09_Load_21,ev_ite,ev_opt,ev_ret,lt_end im.Segs,Bool.false_eq_true,if_false]
       exact ⟨_,rfl,rfl,fun m' h=>by cases h;omega,fun p h=>(by cases h)⟩
     obtain ⟨o,k1,k2,k3,k4⟩:=key
     simp only [bind_some',show L_rom_Load_21 (size,l2,im.Segs,Sl.len im.Segs,W.of .i64 0,())=_ from k1,show L_ref09_Load_21 (size,im,l2,W.of .i64 0,())=_ from k2,ev_sum,ev_ret]
     cases o with
     | inl p=>exact ⟨_,rfl,rfl,k4 p rfl⟩
     | inr p=>exact ⟨_,rfl,rfl,k3 p.2.2.1 rfl⟩
end Go.Proofs.YtiadkommiljbpaaGreatDoor
